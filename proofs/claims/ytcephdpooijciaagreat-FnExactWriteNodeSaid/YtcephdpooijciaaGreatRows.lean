/-
  No cell of these rows narrows 'for every input' (looked for: loops, veiled, ifaces, maps, wideKeys, modest, calm, conditions, laid).
  DERIVED. THE GIVEN ROWS OF THIS SEAT. 3 by the template 'for every input the law returns true; each argument reads behind the call as it read before'; 0 by the template 'total and deterministic' (their statements: YtcephdpooijciaaGreatTotals.lean).
  GIVEN WITH THE SEED: the statements are not yours to turn. If you find one false, say at which input.
  Laid BY PROGRAM, IN A SANDBOX (cutbox-rows.mjs): the forced cells as the released guide's own fill.sh prints them over the translation 5372725eb99cc0a9… (all of the seat's roots in one cut). By AI agents, Wed Nov 11 2026. No macro, syntax, notation, axiom, sorry.
-/
import Derived.Test.YtcephdpooijciaaGreatChecked
import GoSem.Claim
import GoSem.ClaimJoined
import GoSem.ClaimMapViews
import Derived.JoinedTies
import Derived.KernelRfl
namespace Go.Proofs.YtcephdpooijciaaGreat
/- THE CELL 'sum', in the pinned program and in every row, IS THE sha256 OF THE DUMP (.gsa) THAT YtcephdpooijciaaGreatProg.lean LOADS. Nothing in Lean hashes anything: it is a label: what it is worth is what the hold of that sum in a sandbox is worth. -/
noncomputable def Tryz.pinned : Pinned := { name := "ytcephdpooijciaagreat", sum := "5372725eb99cc0a9c61b50be1d548c6d19ada66544eda8e3a6cb81c12ff1d226", checked := Tryz.checked }
namespace Rows
def none {H : Type} : Left H := { results := [], args := [] }

/-- 'laws.FnExactReadNode': WHATEVER THE INPUT: true; the input reads as it did. -/
def fnExactReadNodeSpec : ChangeSpec := { name := "fnExactReadNode", fn := fun _ => fun
  | [d1, d2] => { results := [.lit (.bool true)], args := [d1, d2] }
  | _ => none }
def fnExactReadNodeRow : OpenClaim := { program := "ytcephdpooijciaagreat", sum := "5372725eb99cc0a9c61b50be1d548c6d19ada66544eda8e3a6cb81c12ff1d226", func := "loop.example/g00680/laws.FnExactReadNode", spec := "fnExactReadNode", unfollowed := true, recurses := true, apart := false }
def FnExactReadNodeSaid : Prop := fnExactReadNodeRow.holds Tryz.pinned (OpenSpec.ofChange fnExactReadNodeSpec)

/-- ITS FALSE NEIGHBOUR: 'it returns false'. Refute it at one input. -/
def fnExactReadNodeWrong : ChangeSpec := { name := "fnExactReadNode", fn := fun _ => fun
  | [d1, d2] => { results := [.lit (.bool false)], args := [d1, d2] }
  | _ => none }
def FnExactReadNodeWrongFalsely : Prop := fnExactReadNodeRow.holds Tryz.pinned (OpenSpec.ofChange fnExactReadNodeWrong)

/-- 'laws.FnExactTakeNode': WHATEVER THE INPUT: true; the input reads as it did. -/
def fnExactTakeNodeSpec : ChangeSpec := { name := "fnExactTakeNode", fn := fun _ => fun
  | [d1, d2] => { results := [.lit (.bool true)], args := [d1, d2] }
  | _ => none }
def fnExactTakeNodeRow : OpenClaim := { program := "ytcephdpooijciaagreat", sum := "5372725eb99cc0a9c61b50be1d548c6d19ada66544eda8e3a6cb81c12ff1d226", func := "loop.example/g00680/laws.FnExactTakeNode", spec := "fnExactTakeNode", unfollowed := true, recurses := true, apart := false }
def FnExactTakeNodeSaid : Prop := fnExactTakeNodeRow.holds Tryz.pinned (OpenSpec.ofChange fnExactTakeNodeSpec)

/-- ITS FALSE NEIGHBOUR: 'it returns false'. Refute it at one input. -/
def fnExactTakeNodeWrong : ChangeSpec := { name := "fnExactTakeNode", fn := fun _ => fun
  | [d1, d2] => { results := [.lit (.bool false)], args := [d1, d2] }
  | _ => none }
def FnExactTakeNodeWrongFalsely : Prop := fnExactTakeNodeRow.holds Tryz.pinned (OpenSpec.ofChange fnExactTakeNodeWrong)

/-- 'laws.FnExactWriteNode': WHATEVER THE INPUT: true; the input reads as it did. -/
def fnExactWriteNodeSpec : ChangeSpec := { name := "fnExactWriteNode", fn := fun _ => fun
  | [d1, d2, d3] => { results := [.lit (.bool true)], args := [d1, d2, d3] }
  | _ => none }
def fnExactWriteNodeRow : OpenClaim := { program := "ytcephdpooijciaagreat", sum := "5372725eb99cc0a9c61b50be1d548c6d19ada66544eda8e3a6cb81c12ff1d226", func := "loop.example/g00680/laws.FnExactWriteNode", spec := "fnExactWriteNode", unfollowed := true, recurses := true, apart := false }
def FnExactWriteNodeSaid : Prop := fnExactWriteNodeRow.holds Tryz.pinned (OpenSpec.ofChange fnExactWriteNodeSpec)

/-- ITS FALSE NEIGHBOUR: 'it returns false'. Refute it at one input. -/
def fnExactWriteNodeWrong : ChangeSpec := { name := "fnExactWriteNode", fn := fun _ => fun
  | [d1, d2, d3] => { results := [.lit (.bool false)], args := [d1, d2, d3] }
  | _ => none }
def FnExactWriteNodeWrongFalsely : Prop := fnExactWriteNodeRow.holds Tryz.pinned (OpenSpec.ofChange fnExactWriteNodeWrong)

/- THE SECOND FORM. 'bulk': how many values and letters a reading holds, each counted each time it is reached (what is shared counts as often as it is met; a slice's spare places count too). A statement '..UptoSaid' is the law's where the arguments, and the package variables that the reading takes, are together of bulk at most 1048576: NARROWER than '..Said'. Prove '..Said' where nothing that the law and all that it calls make is longer than what came in: it says more and counts as full. Else prove '..UptoSaid'. A law counts once. -/
mutual
def uptoBulk {H : Type} : DataW H → Nat
  | .lit (.string bytes) => bytes.length + 1
  | .lit _ => 1
  | .nil => 1
  | .ptr d => uptoBulk d + 1
  | .slice elems spare => uptoBulkAll elems + uptoBulkAll spare + 1
  | .agg parts => uptoBulkAll parts + 1
  | .iface _ d => uptoBulk d + 1
  | .map entries => uptoBulkEntries entries + 1
  | .held _ => 1
def uptoBulkAll {H : Type} : List (DataW H) → Nat
  | [] => 0
  | d :: r => uptoBulk d + uptoBulkAll r
def uptoBulkEntries {H : Type} : List (Lit × DataW H) → Nat
  | [] => 0
  | x :: r => uptoBulkEntry x + uptoBulkEntries r
def uptoBulkEntry {H : Type} : Lit × DataW H → Nat
  | (.string bytes, d) => bytes.length + uptoBulk d + 1
  | (_, d) => uptoBulk d + 1
 end
def uptoSmall : (H : Type) → List (DataW H) → Bool := fun _ ds => decide (uptoBulkAll ds ≤ 1048576)
def OpenSpec.upto (s : _root_.Go.ChangeSpec) : _root_.Go.OpenSpec := { _root_.Go.OpenSpec.ofChange s with cond := some uptoSmall }

/-- 'laws.FnExactReadNode', WHERE WHAT IT READS IS OF BULK AT MOST 1048576: true; the input reads as it did. -/
def fnExactReadNodeUptoRow : OpenClaim := { program := "ytcephdpooijciaagreat", sum := "5372725eb99cc0a9c61b50be1d548c6d19ada66544eda8e3a6cb81c12ff1d226", func := "loop.example/g00680/laws.FnExactReadNode", spec := "fnExactReadNode", unfollowed := true, recurses := true, apart := false, narrowed := true }
def FnExactReadNodeUptoSaid : Prop := fnExactReadNodeUptoRow.holds Tryz.pinned (OpenSpec.upto fnExactReadNodeSpec)

/-- 'laws.FnExactTakeNode', WHERE WHAT IT READS IS OF BULK AT MOST 1048576: true; the input reads as it did. -/
def fnExactTakeNodeUptoRow : OpenClaim := { program := "ytcephdpooijciaagreat", sum := "5372725eb99cc0a9c61b50be1d548c6d19ada66544eda8e3a6cb81c12ff1d226", func := "loop.example/g00680/laws.FnExactTakeNode", spec := "fnExactTakeNode", unfollowed := true, recurses := true, apart := false, narrowed := true }
def FnExactTakeNodeUptoSaid : Prop := fnExactTakeNodeUptoRow.holds Tryz.pinned (OpenSpec.upto fnExactTakeNodeSpec)

/-- 'laws.FnExactWriteNode', WHERE WHAT IT READS IS OF BULK AT MOST 1048576: true; the input reads as it did. -/
def fnExactWriteNodeUptoRow : OpenClaim := { program := "ytcephdpooijciaagreat", sum := "5372725eb99cc0a9c61b50be1d548c6d19ada66544eda8e3a6cb81c12ff1d226", func := "loop.example/g00680/laws.FnExactWriteNode", spec := "fnExactWriteNode", unfollowed := true, recurses := true, apart := false, narrowed := true }
def FnExactWriteNodeUptoSaid : Prop := fnExactWriteNodeUptoRow.holds Tryz.pinned (OpenSpec.upto fnExactWriteNodeSpec)

end Rows
end Go.Proofs.YtcephdpooijciaaGreat
