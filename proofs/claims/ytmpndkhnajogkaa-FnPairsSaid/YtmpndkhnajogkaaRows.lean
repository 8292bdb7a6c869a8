/-
  No cell of these rows narrows 'for every input' (looked for: loops, veiled, ifaces, maps, wideKeys, modest, calm, conditions, laid).
  DERIVED. THE GIVEN ROWS OF THIS SEAT. 12 by the template 'for every input the law returns true; each argument reads behind the call as it read before'; 0 by the template 'total and deterministic' (their statements: YtmpndkhnajogkaaTotals.lean).
  GIVEN WITH THE SEED: the statements are not yours to turn. If you find one false, say at which input.
  Laid BY PROGRAM, IN A SANDBOX (cutbox-rows.mjs): the forced cells as the released guide's own fill.sh prints them over the translation 848c028f99c035d8… (all of the seat's roots in one cut). By AI agents, Wed Nov 11 2026. No macro, syntax, notation, axiom, sorry.
-/
import Derived.Test.YtmpndkhnajogkaaChecked
import GoSem.Claim
import GoSem.ClaimJoined
import GoSem.ClaimMapViews
import Derived.JoinedTies
import Derived.KernelRfl
namespace Go.Proofs.Ytmpndkhnajogkaa
/- THE CELL 'sum', in the pinned program and in every row, IS THE sha256 OF THE DUMP (.gsa) THAT YtmpndkhnajogkaaProg.lean LOADS. Nothing in Lean hashes anything: it is a label: what it is worth is what the hold of that sum in a sandbox is worth. -/
noncomputable def Try.pinned : Pinned := { name := "ytmpndkhnajogkaa", sum := "848c028f99c035d8fa4c254168397dd2e2a9a99dfe13c567ba0666408f500c7a", checked := Try.checked }
namespace Rows
def none {H : Type} : Left H := { results := [], args := [] }

/-- 'laws.FnExactIsDone': WHATEVER THE INPUT: true; the input reads as it did. -/
def fnExactIsDoneSpec : ChangeSpec := { name := "fnExactIsDone", fn := fun _ => fun
  | [d1, d2] => { results := [.lit (.bool true)], args := [d1, d2] }
  | _ => none }
def fnExactIsDoneRow : OpenClaim := { program := "ytmpndkhnajogkaa", sum := "848c028f99c035d8fa4c254168397dd2e2a9a99dfe13c567ba0666408f500c7a", func := "loop.example/g00680/laws.FnExactIsDone", spec := "fnExactIsDone", unfollowed := true, recurses := true, apart := false }
def FnExactIsDoneSaid : Prop := fnExactIsDoneRow.holds Try.pinned (OpenSpec.ofChange fnExactIsDoneSpec)

/-- ITS FALSE NEIGHBOUR: 'it returns false'. Refute it at one input. -/
def fnExactIsDoneWrong : ChangeSpec := { name := "fnExactIsDone", fn := fun _ => fun
  | [d1, d2] => { results := [.lit (.bool false)], args := [d1, d2] }
  | _ => none }
def FnExactIsDoneWrongFalsely : Prop := fnExactIsDoneRow.holds Try.pinned (OpenSpec.ofChange fnExactIsDoneWrong)

/-- 'laws.FnExactAxisOf': WHATEVER THE INPUT: true; the input reads as it did. -/
def fnExactAxisOfSpec : ChangeSpec := { name := "fnExactAxisOf", fn := fun _ => fun
  | [d1, d2] => { results := [.lit (.bool true)], args := [d1, d2] }
  | _ => none }
def fnExactAxisOfRow : OpenClaim := { program := "ytmpndkhnajogkaa", sum := "848c028f99c035d8fa4c254168397dd2e2a9a99dfe13c567ba0666408f500c7a", func := "loop.example/g00680/laws.FnExactAxisOf", spec := "fnExactAxisOf", unfollowed := true, recurses := true, apart := false }
def FnExactAxisOfSaid : Prop := fnExactAxisOfRow.holds Try.pinned (OpenSpec.ofChange fnExactAxisOfSpec)

/-- ITS FALSE NEIGHBOUR: 'it returns false'. Refute it at one input. -/
def fnExactAxisOfWrong : ChangeSpec := { name := "fnExactAxisOf", fn := fun _ => fun
  | [d1, d2] => { results := [.lit (.bool false)], args := [d1, d2] }
  | _ => none }
def FnExactAxisOfWrongFalsely : Prop := fnExactAxisOfRow.holds Try.pinned (OpenSpec.ofChange fnExactAxisOfWrong)

/-- 'laws.FnExactSortAxis': WHATEVER THE INPUT: true; the input reads as it did. -/
def fnExactSortAxisSpec : ChangeSpec := { name := "fnExactSortAxis", fn := fun _ => fun
  | [d1, d2, d3] => { results := [.lit (.bool true)], args := [d1, d2, d3] }
  | _ => none }
def fnExactSortAxisRow : OpenClaim := { program := "ytmpndkhnajogkaa", sum := "848c028f99c035d8fa4c254168397dd2e2a9a99dfe13c567ba0666408f500c7a", func := "loop.example/g00680/laws.FnExactSortAxis", spec := "fnExactSortAxis", unfollowed := true, recurses := true, apart := false }
def FnExactSortAxisSaid : Prop := fnExactSortAxisRow.holds Try.pinned (OpenSpec.ofChange fnExactSortAxisSpec)

/-- ITS FALSE NEIGHBOUR: 'it returns false'. Refute it at one input. -/
def fnExactSortAxisWrong : ChangeSpec := { name := "fnExactSortAxis", fn := fun _ => fun
  | [d1, d2, d3] => { results := [.lit (.bool false)], args := [d1, d2, d3] }
  | _ => none }
def FnExactSortAxisWrongFalsely : Prop := fnExactSortAxisRow.holds Try.pinned (OpenSpec.ofChange fnExactSortAxisWrong)

/-- 'laws.FnExactSplitQuad': WHATEVER THE INPUT: true; the input reads as it did. -/
def fnExactSplitQuadSpec : ChangeSpec := { name := "fnExactSplitQuad", fn := fun _ => fun
  | [d1, d2] => { results := [.lit (.bool true)], args := [d1, d2] }
  | _ => none }
def fnExactSplitQuadRow : OpenClaim := { program := "ytmpndkhnajogkaa", sum := "848c028f99c035d8fa4c254168397dd2e2a9a99dfe13c567ba0666408f500c7a", func := "loop.example/g00680/laws.FnExactSplitQuad", spec := "fnExactSplitQuad", unfollowed := true, recurses := true, apart := false }
def FnExactSplitQuadSaid : Prop := fnExactSplitQuadRow.holds Try.pinned (OpenSpec.ofChange fnExactSplitQuadSpec)

/-- ITS FALSE NEIGHBOUR: 'it returns false'. Refute it at one input. -/
def fnExactSplitQuadWrong : ChangeSpec := { name := "fnExactSplitQuad", fn := fun _ => fun
  | [d1, d2] => { results := [.lit (.bool false)], args := [d1, d2] }
  | _ => none }
def FnExactSplitQuadWrongFalsely : Prop := fnExactSplitQuadRow.holds Try.pinned (OpenSpec.ofChange fnExactSplitQuadWrong)

/-- 'laws.FnExactSplitStar': WHATEVER THE INPUT: true; the input reads as it did. -/
def fnExactSplitStarSpec : ChangeSpec := { name := "fnExactSplitStar", fn := fun _ => fun
  | [d1, d2] => { results := [.lit (.bool true)], args := [d1, d2] }
  | _ => none }
def fnExactSplitStarRow : OpenClaim := { program := "ytmpndkhnajogkaa", sum := "848c028f99c035d8fa4c254168397dd2e2a9a99dfe13c567ba0666408f500c7a", func := "loop.example/g00680/laws.FnExactSplitStar", spec := "fnExactSplitStar", unfollowed := true, recurses := true, apart := false }
def FnExactSplitStarSaid : Prop := fnExactSplitStarRow.holds Try.pinned (OpenSpec.ofChange fnExactSplitStarSpec)

/-- ITS FALSE NEIGHBOUR: 'it returns false'. Refute it at one input. -/
def fnExactSplitStarWrong : ChangeSpec := { name := "fnExactSplitStar", fn := fun _ => fun
  | [d1, d2] => { results := [.lit (.bool false)], args := [d1, d2] }
  | _ => none }
def FnExactSplitStarWrongFalsely : Prop := fnExactSplitStarRow.holds Try.pinned (OpenSpec.ofChange fnExactSplitStarWrong)

/-- 'laws.FnDists': WHATEVER THE INPUT: true; the input reads as it did. -/
def fnDistsSpec : ChangeSpec := { name := "fnDists", fn := fun _ => fun
  | [d] => { results := [.lit (.bool true)], args := [d] }
  | _ => none }
def fnDistsRow : OpenClaim := { program := "ytmpndkhnajogkaa", sum := "848c028f99c035d8fa4c254168397dd2e2a9a99dfe13c567ba0666408f500c7a", func := "loop.example/g00680/laws.FnDists", spec := "fnDists", unfollowed := true, recurses := true, apart := false }
def FnDistsSaid : Prop := fnDistsRow.holds Try.pinned (OpenSpec.ofChange fnDistsSpec)

/-- ITS FALSE NEIGHBOUR: 'it returns false'. Refute it at one input. -/
def fnDistsWrong : ChangeSpec := { name := "fnDists", fn := fun _ => fun
  | [d] => { results := [.lit (.bool false)], args := [d] }
  | _ => none }
def FnDistsWrongFalsely : Prop := fnDistsRow.holds Try.pinned (OpenSpec.ofChange fnDistsWrong)

/-- 'laws.FnBoxes': WHATEVER THE INPUT: true; the input reads as it did. -/
def fnBoxesSpec : ChangeSpec := { name := "fnBoxes", fn := fun _ => fun
  | [d] => { results := [.lit (.bool true)], args := [d] }
  | _ => none }
def fnBoxesRow : OpenClaim := { program := "ytmpndkhnajogkaa", sum := "848c028f99c035d8fa4c254168397dd2e2a9a99dfe13c567ba0666408f500c7a", func := "loop.example/g00680/laws.FnBoxes", spec := "fnBoxes", unfollowed := true, recurses := true, apart := false }
def FnBoxesSaid : Prop := fnBoxesRow.holds Try.pinned (OpenSpec.ofChange fnBoxesSpec)

/-- ITS FALSE NEIGHBOUR: 'it returns false'. Refute it at one input. -/
def fnBoxesWrong : ChangeSpec := { name := "fnBoxes", fn := fun _ => fun
  | [d] => { results := [.lit (.bool false)], args := [d] }
  | _ => none }
def FnBoxesWrongFalsely : Prop := fnBoxesRow.holds Try.pinned (OpenSpec.ofChange fnBoxesWrong)

/-- 'laws.FnAreas': WHATEVER THE INPUT: true; the input reads as it did. -/
def fnAreasSpec : ChangeSpec := { name := "fnAreas", fn := fun _ => fun
  | [d] => { results := [.lit (.bool true)], args := [d] }
  | _ => none }
def fnAreasRow : OpenClaim := { program := "ytmpndkhnajogkaa", sum := "848c028f99c035d8fa4c254168397dd2e2a9a99dfe13c567ba0666408f500c7a", func := "loop.example/g00680/laws.FnAreas", spec := "fnAreas", unfollowed := true, recurses := true, apart := false }
def FnAreasSaid : Prop := fnAreasRow.holds Try.pinned (OpenSpec.ofChange fnAreasSpec)

/-- ITS FALSE NEIGHBOUR: 'it returns false'. Refute it at one input. -/
def fnAreasWrong : ChangeSpec := { name := "fnAreas", fn := fun _ => fun
  | [d] => { results := [.lit (.bool false)], args := [d] }
  | _ => none }
def FnAreasWrongFalsely : Prop := fnAreasRow.holds Try.pinned (OpenSpec.ofChange fnAreasWrong)

/-- 'laws.FnChoices': WHATEVER THE INPUT: true; the input reads as it did. -/
def fnChoicesSpec : ChangeSpec := { name := "fnChoices", fn := fun _ => fun
  | [d] => { results := [.lit (.bool true)], args := [d] }
  | _ => none }
def fnChoicesRow : OpenClaim := { program := "ytmpndkhnajogkaa", sum := "848c028f99c035d8fa4c254168397dd2e2a9a99dfe13c567ba0666408f500c7a", func := "loop.example/g00680/laws.FnChoices", spec := "fnChoices", unfollowed := true, recurses := true, apart := false }
def FnChoicesSaid : Prop := fnChoicesRow.holds Try.pinned (OpenSpec.ofChange fnChoicesSpec)

/-- ITS FALSE NEIGHBOUR: 'it returns false'. Refute it at one input. -/
def fnChoicesWrong : ChangeSpec := { name := "fnChoices", fn := fun _ => fun
  | [d] => { results := [.lit (.bool false)], args := [d] }
  | _ => none }
def FnChoicesWrongFalsely : Prop := fnChoicesRow.holds Try.pinned (OpenSpec.ofChange fnChoicesWrong)

/-- 'laws.FnWidens': WHATEVER THE INPUT: true; the input reads as it did. -/
def fnWidensSpec : ChangeSpec := { name := "fnWidens", fn := fun _ => fun
  | [d] => { results := [.lit (.bool true)], args := [d] }
  | _ => none }
def fnWidensRow : OpenClaim := { program := "ytmpndkhnajogkaa", sum := "848c028f99c035d8fa4c254168397dd2e2a9a99dfe13c567ba0666408f500c7a", func := "loop.example/g00680/laws.FnWidens", spec := "fnWidens", unfollowed := true, recurses := true, apart := false }
def FnWidensSaid : Prop := fnWidensRow.holds Try.pinned (OpenSpec.ofChange fnWidensSpec)

/-- ITS FALSE NEIGHBOUR: 'it returns false'. Refute it at one input. -/
def fnWidensWrong : ChangeSpec := { name := "fnWidens", fn := fun _ => fun
  | [d] => { results := [.lit (.bool false)], args := [d] }
  | _ => none }
def FnWidensWrongFalsely : Prop := fnWidensRow.holds Try.pinned (OpenSpec.ofChange fnWidensWrong)

/-- 'laws.FnNodes': WHATEVER THE INPUT: true; the input reads as it did. -/
def fnNodesSpec : ChangeSpec := { name := "fnNodes", fn := fun _ => fun
  | [d] => { results := [.lit (.bool true)], args := [d] }
  | _ => none }
def fnNodesRow : OpenClaim := { program := "ytmpndkhnajogkaa", sum := "848c028f99c035d8fa4c254168397dd2e2a9a99dfe13c567ba0666408f500c7a", func := "loop.example/g00680/laws.FnNodes", spec := "fnNodes", unfollowed := true, recurses := true, apart := false }
def FnNodesSaid : Prop := fnNodesRow.holds Try.pinned (OpenSpec.ofChange fnNodesSpec)

/-- ITS FALSE NEIGHBOUR: 'it returns false'. Refute it at one input. -/
def fnNodesWrong : ChangeSpec := { name := "fnNodes", fn := fun _ => fun
  | [d] => { results := [.lit (.bool false)], args := [d] }
  | _ => none }
def FnNodesWrongFalsely : Prop := fnNodesRow.holds Try.pinned (OpenSpec.ofChange fnNodesWrong)

/-- 'laws.FnPairs': WHATEVER THE INPUT: true; the input reads as it did. -/
def fnPairsSpec : ChangeSpec := { name := "fnPairs", fn := fun _ => fun
  | [d] => { results := [.lit (.bool true)], args := [d] }
  | _ => none }
def fnPairsRow : OpenClaim := { program := "ytmpndkhnajogkaa", sum := "848c028f99c035d8fa4c254168397dd2e2a9a99dfe13c567ba0666408f500c7a", func := "loop.example/g00680/laws.FnPairs", spec := "fnPairs", inPlace := ["slices.overlaps[loop.example/g00680/impl.Pair]"], unfollowed := true, recurses := true, apart := false }
def FnPairsSaid : Prop := fnPairsRow.holds Try.pinned (OpenSpec.ofChange fnPairsSpec)

/-- ITS FALSE NEIGHBOUR: 'it returns false'. Refute it at one input. -/
def fnPairsWrong : ChangeSpec := { name := "fnPairs", fn := fun _ => fun
  | [d] => { results := [.lit (.bool false)], args := [d] }
  | _ => none }
def FnPairsWrongFalsely : Prop := fnPairsRow.holds Try.pinned (OpenSpec.ofChange fnPairsWrong)

/- THE SECOND FORM. 'bulk': how many values and letters a reading holds, each counted each time it is reached (what is shared counts as often as it is met; a slice's spare places count too). A statement '..UptoSaid' is the law's where the arguments, and the package variables that the reading takes, are together of bulk at most 1048576: NARROWER than '..Said'. Prove '..Said' where nothing that the law and all that it calls make is longer than what came in: it says more and counts as full. Else prove '..UptoSaid'. A law counts once. -/
mutual
def uptoBulk {H : Type} : DataW H → Nat
  | .lit (.string bytes) => bytes.length + 1
  | .lit _ => 1
  | .nil => 1
  | .ptr d => uptoBulk d + 1
  | .slice elems spare => uptoBulkAll elems + uptoBulkAll spare + 1
  | .agg parts => uptoBulkAll parts + 1
  | .iface _ d => uptoBulk d + 1
  | .map entries => uptoBulkEntries entries + 1
  | .held _ => 1
def uptoBulkAll {H : Type} : List (DataW H) → Nat
  | [] => 0
  | d :: r => uptoBulk d + uptoBulkAll r
def uptoBulkEntries {H : Type} : List (Lit × DataW H) → Nat
  | [] => 0
  | x :: r => uptoBulkEntry x + uptoBulkEntries r
def uptoBulkEntry {H : Type} : Lit × DataW H → Nat
  | (.string bytes, d) => bytes.length + uptoBulk d + 1
  | (_, d) => uptoBulk d + 1
 end
def uptoSmall : (H : Type) → List (DataW H) → Bool := fun _ ds => decide (uptoBulkAll ds ≤ 1048576)
def OpenSpec.upto (s : _root_.Go.ChangeSpec) : _root_.Go.OpenSpec := { _root_.Go.OpenSpec.ofChange s with cond := some uptoSmall }

/-- 'laws.FnExactIsDone', WHERE WHAT IT READS IS OF BULK AT MOST 1048576: true; the input reads as it did. -/
def fnExactIsDoneUptoRow : OpenClaim := { program := "ytmpndkhnajogkaa", sum := "848c028f99c035d8fa4c254168397dd2e2a9a99dfe13c567ba0666408f500c7a", func := "loop.example/g00680/laws.FnExactIsDone", spec := "fnExactIsDone", unfollowed := true, recurses := true, apart := false, narrowed := true }
def FnExactIsDoneUptoSaid : Prop := fnExactIsDoneUptoRow.holds Try.pinned (OpenSpec.upto fnExactIsDoneSpec)

/-- 'laws.FnExactAxisOf', WHERE WHAT IT READS IS OF BULK AT MOST 1048576: true; the input reads as it did. -/
def fnExactAxisOfUptoRow : OpenClaim := { program := "ytmpndkhnajogkaa", sum := "848c028f99c035d8fa4c254168397dd2e2a9a99dfe13c567ba0666408f500c7a", func := "loop.example/g00680/laws.FnExactAxisOf", spec := "fnExactAxisOf", unfollowed := true, recurses := true, apart := false, narrowed := true }
def FnExactAxisOfUptoSaid : Prop := fnExactAxisOfUptoRow.holds Try.pinned (OpenSpec.upto fnExactAxisOfSpec)

/-- 'laws.FnExactSortAxis', WHERE WHAT IT READS IS OF BULK AT MOST 1048576: true; the input reads as it did. -/
def fnExactSortAxisUptoRow : OpenClaim := { program := "ytmpndkhnajogkaa", sum := "848c028f99c035d8fa4c254168397dd2e2a9a99dfe13c567ba0666408f500c7a", func := "loop.example/g00680/laws.FnExactSortAxis", spec := "fnExactSortAxis", unfollowed := true, recurses := true, apart := false, narrowed := true }
def FnExactSortAxisUptoSaid : Prop := fnExactSortAxisUptoRow.holds Try.pinned (OpenSpec.upto fnExactSortAxisSpec)

/-- 'laws.FnExactSplitQuad', WHERE WHAT IT READS IS OF BULK AT MOST 1048576: true; the input reads as it did. -/
def fnExactSplitQuadUptoRow : OpenClaim := { program := "ytmpndkhnajogkaa", sum := "848c028f99c035d8fa4c254168397dd2e2a9a99dfe13c567ba0666408f500c7a", func := "loop.example/g00680/laws.FnExactSplitQuad", spec := "fnExactSplitQuad", unfollowed := true, recurses := true, apart := false, narrowed := true }
def FnExactSplitQuadUptoSaid : Prop := fnExactSplitQuadUptoRow.holds Try.pinned (OpenSpec.upto fnExactSplitQuadSpec)

/-- 'laws.FnExactSplitStar', WHERE WHAT IT READS IS OF BULK AT MOST 1048576: true; the input reads as it did. -/
def fnExactSplitStarUptoRow : OpenClaim := { program := "ytmpndkhnajogkaa", sum := "848c028f99c035d8fa4c254168397dd2e2a9a99dfe13c567ba0666408f500c7a", func := "loop.example/g00680/laws.FnExactSplitStar", spec := "fnExactSplitStar", unfollowed := true, recurses := true, apart := false, narrowed := true }
def FnExactSplitStarUptoSaid : Prop := fnExactSplitStarUptoRow.holds Try.pinned (OpenSpec.upto fnExactSplitStarSpec)

/-- 'laws.FnDists', WHERE WHAT IT READS IS OF BULK AT MOST 1048576: true; the input reads as it did. -/
def fnDistsUptoRow : OpenClaim := { program := "ytmpndkhnajogkaa", sum := "848c028f99c035d8fa4c254168397dd2e2a9a99dfe13c567ba0666408f500c7a", func := "loop.example/g00680/laws.FnDists", spec := "fnDists", unfollowed := true, recurses := true, apart := false, narrowed := true }
def FnDistsUptoSaid : Prop := fnDistsUptoRow.holds Try.pinned (OpenSpec.upto fnDistsSpec)

/-- 'laws.FnBoxes', WHERE WHAT IT READS IS OF BULK AT MOST 1048576: true; the input reads as it did. -/
def fnBoxesUptoRow : OpenClaim := { program := "ytmpndkhnajogkaa", sum := "848c028f99c035d8fa4c254168397dd2e2a9a99dfe13c567ba0666408f500c7a", func := "loop.example/g00680/laws.FnBoxes", spec := "fnBoxes", unfollowed := true, recurses := true, apart := false, narrowed := true }
def FnBoxesUptoSaid : Prop := fnBoxesUptoRow.holds Try.pinned (OpenSpec.upto fnBoxesSpec)

/-- 'laws.FnAreas', WHERE WHAT IT READS IS OF BULK AT MOST 1048576: true; the input reads as it did. -/
def fnAreasUptoRow : OpenClaim := { program := "ytmpndkhnajogkaa", sum := "848c028f99c035d8fa4c254168397dd2e2a9a99dfe13c567ba0666408f500c7a", func := "loop.example/g00680/laws.FnAreas", spec := "fnAreas", unfollowed := true, recurses := true, apart := false, narrowed := true }
def FnAreasUptoSaid : Prop := fnAreasUptoRow.holds Try.pinned (OpenSpec.upto fnAreasSpec)

/-- 'laws.FnChoices', WHERE WHAT IT READS IS OF BULK AT MOST 1048576: true; the input reads as it did. -/
def fnChoicesUptoRow : OpenClaim := { program := "ytmpndkhnajogkaa", sum := "848c028f99c035d8fa4c254168397dd2e2a9a99dfe13c567ba0666408f500c7a", func := "loop.example/g00680/laws.FnChoices", spec := "fnChoices", unfollowed := true, recurses := true, apart := false, narrowed := true }
def FnChoicesUptoSaid : Prop := fnChoicesUptoRow.holds Try.pinned (OpenSpec.upto fnChoicesSpec)

/-- 'laws.FnWidens', WHERE WHAT IT READS IS OF BULK AT MOST 1048576: true; the input reads as it did. -/
def fnWidensUptoRow : OpenClaim := { program := "ytmpndkhnajogkaa", sum := "848c028f99c035d8fa4c254168397dd2e2a9a99dfe13c567ba0666408f500c7a", func := "loop.example/g00680/laws.FnWidens", spec := "fnWidens", unfollowed := true, recurses := true, apart := false, narrowed := true }
def FnWidensUptoSaid : Prop := fnWidensUptoRow.holds Try.pinned (OpenSpec.upto fnWidensSpec)

/-- 'laws.FnNodes', WHERE WHAT IT READS IS OF BULK AT MOST 1048576: true; the input reads as it did. -/
def fnNodesUptoRow : OpenClaim := { program := "ytmpndkhnajogkaa", sum := "848c028f99c035d8fa4c254168397dd2e2a9a99dfe13c567ba0666408f500c7a", func := "loop.example/g00680/laws.FnNodes", spec := "fnNodes", unfollowed := true, recurses := true, apart := false, narrowed := true }
def FnNodesUptoSaid : Prop := fnNodesUptoRow.holds Try.pinned (OpenSpec.upto fnNodesSpec)

/-- 'laws.FnPairs', WHERE WHAT IT READS IS OF BULK AT MOST 1048576: true; the input reads as it did. -/
def fnPairsUptoRow : OpenClaim := { program := "ytmpndkhnajogkaa", sum := "848c028f99c035d8fa4c254168397dd2e2a9a99dfe13c567ba0666408f500c7a", func := "loop.example/g00680/laws.FnPairs", spec := "fnPairs", inPlace := ["slices.overlaps[loop.example/g00680/impl.Pair]"], unfollowed := true, recurses := true, apart := false, narrowed := true }
def FnPairsUptoSaid : Prop := fnPairsUptoRow.holds Try.pinned (OpenSpec.upto fnPairsSpec)

end Rows
end Go.Proofs.Ytmpndkhnajogkaa
