/-
  No cell of these rows narrows 'for every input' (looked for: loops, veiled, ifaces, maps, wideKeys, modest, calm, conditions, laid).
  DERIVED. THE GIVEN ROWS OF THIS SEAT. 9 by the template 'for every input the law returns true; each argument reads behind the call as it read before'; 0 by the template 'total and deterministic' (their statements: YtcephdpooijciaaTotals.lean).
  GIVEN WITH THE SEED: the statements are not yours to turn. If you find one false, say at which input.
  Laid BY PROGRAM, IN A SANDBOX (cutbox-rows.mjs): the forced cells as the released guide's own fill.sh prints them over the translation ac61c19bed9fe767… (all of the seat's roots in one cut). By AI agents, Wed Nov 11 2026. No macro, syntax, notation, axiom, sorry.
-/
import Derived.Test.YtcephdpooijciaaChecked
import GoSem.Claim
import GoSem.ClaimJoined
import GoSem.ClaimMapViews
import Derived.JoinedTies
import Derived.KernelRfl
namespace Go.Proofs.Ytcephdpooijciaa
/- THE CELL 'sum', in the pinned program and in every row, IS THE sha256 OF THE DUMP (.gsa) THAT YtcephdpooijciaaProg.lean LOADS. Nothing in Lean hashes anything: it is a label: what it is worth is what the hold of that sum in a sandbox is worth. -/
noncomputable def Try.pinned : Pinned := { name := "ytcephdpooijciaa", sum := "ac61c19bed9fe76779cd23cb9a9861faa16eb8742a4e6bc8b9d55652946eb77b", checked := Try.checked }
namespace Rows
def none {H : Type} : Left H := { results := [], args := [] }

/-- 'laws.FnExactNewTree': WHATEVER THE INPUT: true; the input reads as it did. -/
def fnExactNewTreeSpec : ChangeSpec := { name := "fnExactNewTree", fn := fun _ => fun
  | [d1, d2, d3] => { results := [.lit (.bool true)], args := [d1, d2, d3] }
  | _ => none }
def fnExactNewTreeRow : OpenClaim := { program := "ytcephdpooijciaa", sum := "ac61c19bed9fe76779cd23cb9a9861faa16eb8742a4e6bc8b9d55652946eb77b", func := "loop.example/g00680/laws.FnExactNewTree", spec := "fnExactNewTree", apart := false }
def FnExactNewTreeSaid : Prop := fnExactNewTreeRow.holds Try.pinned (OpenSpec.ofChange fnExactNewTreeSpec)

/-- ITS FALSE NEIGHBOUR: 'it returns false'. Refute it at one input. -/
def fnExactNewTreeWrong : ChangeSpec := { name := "fnExactNewTree", fn := fun _ => fun
  | [d1, d2, d3] => { results := [.lit (.bool false)], args := [d1, d2, d3] }
  | _ => none }
def FnExactNewTreeWrongFalsely : Prop := fnExactNewTreeRow.holds Try.pinned (OpenSpec.ofChange fnExactNewTreeWrong)

/-- 'laws.FnExactSeedsOf': WHATEVER THE INPUT: true; the input reads as it did. -/
def fnExactSeedsOfSpec : ChangeSpec := { name := "fnExactSeedsOf", fn := fun _ => fun
  | [d1, d2] => { results := [.lit (.bool true)], args := [d1, d2] }
  | _ => none }
def fnExactSeedsOfRow : OpenClaim := { program := "ytcephdpooijciaa", sum := "ac61c19bed9fe76779cd23cb9a9861faa16eb8742a4e6bc8b9d55652946eb77b", func := "loop.example/g00680/laws.FnExactSeedsOf", spec := "fnExactSeedsOf", unfollowed := true, recurses := true, apart := false }
def FnExactSeedsOfSaid : Prop := fnExactSeedsOfRow.holds Try.pinned (OpenSpec.ofChange fnExactSeedsOfSpec)

/-- ITS FALSE NEIGHBOUR: 'it returns false'. Refute it at one input. -/
def fnExactSeedsOfWrong : ChangeSpec := { name := "fnExactSeedsOf", fn := fun _ => fun
  | [d1, d2] => { results := [.lit (.bool false)], args := [d1, d2] }
  | _ => none }
def FnExactSeedsOfWrongFalsely : Prop := fnExactSeedsOfRow.holds Try.pinned (OpenSpec.ofChange fnExactSeedsOfWrong)

/-- 'laws.FnExactBoxOf': WHATEVER THE INPUT: true; the input reads as it did. -/
def fnExactBoxOfSpec : ChangeSpec := { name := "fnExactBoxOf", fn := fun _ => fun
  | [d1, d2] => { results := [.lit (.bool true)], args := [d1, d2] }
  | _ => none }
def fnExactBoxOfRow : OpenClaim := { program := "ytcephdpooijciaa", sum := "ac61c19bed9fe76779cd23cb9a9861faa16eb8742a4e6bc8b9d55652946eb77b", func := "loop.example/g00680/laws.FnExactBoxOf", spec := "fnExactBoxOf", unfollowed := true, recurses := true, apart := false }
def FnExactBoxOfSaid : Prop := fnExactBoxOfRow.holds Try.pinned (OpenSpec.ofChange fnExactBoxOfSpec)

/-- ITS FALSE NEIGHBOUR: 'it returns false'. Refute it at one input. -/
def fnExactBoxOfWrong : ChangeSpec := { name := "fnExactBoxOf", fn := fun _ => fun
  | [d1, d2] => { results := [.lit (.bool false)], args := [d1, d2] }
  | _ => none }
def FnExactBoxOfWrongFalsely : Prop := fnExactBoxOfRow.holds Try.pinned (OpenSpec.ofChange fnExactBoxOfWrong)

/-- 'laws.FnExactBusyIn': WHATEVER THE INPUT: true; the input reads as it did. -/
def fnExactBusyInSpec : ChangeSpec := { name := "fnExactBusyIn", fn := fun _ => fun
  | [d] => { results := [.lit (.bool true)], args := [d] }
  | _ => none }
def fnExactBusyInRow : OpenClaim := { program := "ytcephdpooijciaa", sum := "ac61c19bed9fe76779cd23cb9a9861faa16eb8742a4e6bc8b9d55652946eb77b", func := "loop.example/g00680/laws.FnExactBusyIn", spec := "fnExactBusyIn", apart := false }
def FnExactBusyInSaid : Prop := fnExactBusyInRow.holds Try.pinned (OpenSpec.ofChange fnExactBusyInSpec)

/-- ITS FALSE NEIGHBOUR: 'it returns false'. Refute it at one input. -/
def fnExactBusyInWrong : ChangeSpec := { name := "fnExactBusyIn", fn := fun _ => fun
  | [d] => { results := [.lit (.bool false)], args := [d] }
  | _ => none }
def FnExactBusyInWrongFalsely : Prop := fnExactBusyInRow.holds Try.pinned (OpenSpec.ofChange fnExactBusyInWrong)

/-- 'laws.FnExactTakePair': WHATEVER THE INPUT: true; the input reads as it did. -/
def fnExactTakePairSpec : ChangeSpec := { name := "fnExactTakePair", fn := fun _ => fun
  | [d1, d2, d3] => { results := [.lit (.bool true)], args := [d1, d2, d3] }
  | _ => none }
def fnExactTakePairRow : OpenClaim := { program := "ytcephdpooijciaa", sum := "ac61c19bed9fe76779cd23cb9a9861faa16eb8742a4e6bc8b9d55652946eb77b", func := "loop.example/g00680/laws.FnExactTakePair", spec := "fnExactTakePair", unfollowed := true, recurses := true, apart := false }
def FnExactTakePairSaid : Prop := fnExactTakePairRow.holds Try.pinned (OpenSpec.ofChange fnExactTakePairSpec)

/-- ITS FALSE NEIGHBOUR: 'it returns false'. Refute it at one input. -/
def fnExactTakePairWrong : ChangeSpec := { name := "fnExactTakePair", fn := fun _ => fun
  | [d1, d2, d3] => { results := [.lit (.bool false)], args := [d1, d2, d3] }
  | _ => none }
def FnExactTakePairWrongFalsely : Prop := fnExactTakePairRow.holds Try.pinned (OpenSpec.ofChange fnExactTakePairWrong)

/-- 'laws.FnExactAddPair': WHATEVER THE INPUT: true; the input reads as it did. -/
def fnExactAddPairSpec : ChangeSpec := { name := "fnExactAddPair", fn := fun _ => fun
  | [d1, d2, d3] => { results := [.lit (.bool true)], args := [d1, d2, d3] }
  | _ => none }
def fnExactAddPairRow : OpenClaim := { program := "ytcephdpooijciaa", sum := "ac61c19bed9fe76779cd23cb9a9861faa16eb8742a4e6bc8b9d55652946eb77b", func := "loop.example/g00680/laws.FnExactAddPair", spec := "fnExactAddPair", inPlace := ["slices.overlaps[loop.example/g00680/impl.Pair]"], unfollowed := true, recurses := true, apart := false }
def FnExactAddPairSaid : Prop := fnExactAddPairRow.holds Try.pinned (OpenSpec.ofChange fnExactAddPairSpec)

/-- ITS FALSE NEIGHBOUR: 'it returns false'. Refute it at one input. -/
def fnExactAddPairWrong : ChangeSpec := { name := "fnExactAddPair", fn := fun _ => fun
  | [d1, d2, d3] => { results := [.lit (.bool false)], args := [d1, d2, d3] }
  | _ => none }
def FnExactAddPairWrongFalsely : Prop := fnExactAddPairRow.holds Try.pinned (OpenSpec.ofChange fnExactAddPairWrong)

/-- 'laws.FnExactWithEntry': WHATEVER THE INPUT: true; the input reads as it did. -/
def fnExactWithEntrySpec : ChangeSpec := { name := "fnExactWithEntry", fn := fun _ => fun
  | [d1, d2, d3] => { results := [.lit (.bool true)], args := [d1, d2, d3] }
  | _ => none }
def fnExactWithEntryRow : OpenClaim := { program := "ytcephdpooijciaa", sum := "ac61c19bed9fe76779cd23cb9a9861faa16eb8742a4e6bc8b9d55652946eb77b", func := "loop.example/g00680/laws.FnExactWithEntry", spec := "fnExactWithEntry", unfollowed := true, recurses := true, apart := false }
def FnExactWithEntrySaid : Prop := fnExactWithEntryRow.holds Try.pinned (OpenSpec.ofChange fnExactWithEntrySpec)

/-- ITS FALSE NEIGHBOUR: 'it returns false'. Refute it at one input. -/
def fnExactWithEntryWrong : ChangeSpec := { name := "fnExactWithEntry", fn := fun _ => fun
  | [d1, d2, d3] => { results := [.lit (.bool false)], args := [d1, d2, d3] }
  | _ => none }
def FnExactWithEntryWrongFalsely : Prop := fnExactWithEntryRow.holds Try.pinned (OpenSpec.ofChange fnExactWithEntryWrong)

/-- 'laws.FnExactWithoutEntry': WHATEVER THE INPUT: true; the input reads as it did. -/
def fnExactWithoutEntrySpec : ChangeSpec := { name := "fnExactWithoutEntry", fn := fun _ => fun
  | [d1, d2, d3] => { results := [.lit (.bool true)], args := [d1, d2, d3] }
  | _ => none }
def fnExactWithoutEntryRow : OpenClaim := { program := "ytcephdpooijciaa", sum := "ac61c19bed9fe76779cd23cb9a9861faa16eb8742a4e6bc8b9d55652946eb77b", func := "loop.example/g00680/laws.FnExactWithoutEntry", spec := "fnExactWithoutEntry", unfollowed := true, recurses := true, apart := false }
def FnExactWithoutEntrySaid : Prop := fnExactWithoutEntryRow.holds Try.pinned (OpenSpec.ofChange fnExactWithoutEntrySpec)

/-- ITS FALSE NEIGHBOUR: 'it returns false'. Refute it at one input. -/
def fnExactWithoutEntryWrong : ChangeSpec := { name := "fnExactWithoutEntry", fn := fun _ => fun
  | [d1, d2, d3] => { results := [.lit (.bool false)], args := [d1, d2, d3] }
  | _ => none }
def FnExactWithoutEntryWrongFalsely : Prop := fnExactWithoutEntryRow.holds Try.pinned (OpenSpec.ofChange fnExactWithoutEntryWrong)

/-- 'laws.FnExactWidenEntry': WHATEVER THE INPUT: true; the input reads as it did. -/
def fnExactWidenEntrySpec : ChangeSpec := { name := "fnExactWidenEntry", fn := fun _ => fun
  | [d1, d2, d3, d4] => { results := [.lit (.bool true)], args := [d1, d2, d3, d4] }
  | _ => none }
def fnExactWidenEntryRow : OpenClaim := { program := "ytcephdpooijciaa", sum := "ac61c19bed9fe76779cd23cb9a9861faa16eb8742a4e6bc8b9d55652946eb77b", func := "loop.example/g00680/laws.FnExactWidenEntry", spec := "fnExactWidenEntry", unfollowed := true, recurses := true, apart := false }
def FnExactWidenEntrySaid : Prop := fnExactWidenEntryRow.holds Try.pinned (OpenSpec.ofChange fnExactWidenEntrySpec)

/-- ITS FALSE NEIGHBOUR: 'it returns false'. Refute it at one input. -/
def fnExactWidenEntryWrong : ChangeSpec := { name := "fnExactWidenEntry", fn := fun _ => fun
  | [d1, d2, d3, d4] => { results := [.lit (.bool false)], args := [d1, d2, d3, d4] }
  | _ => none }
def FnExactWidenEntryWrongFalsely : Prop := fnExactWidenEntryRow.holds Try.pinned (OpenSpec.ofChange fnExactWidenEntryWrong)

/- THE SECOND FORM. 'bulk': how many values and letters a reading holds, each counted each time it is reached (what is shared counts as often as it is met; a slice's spare places count too). A statement '..UptoSaid' is the law's where the arguments, and the package variables that the reading takes, are together of bulk at most 1048576: NARROWER than '..Said'. Prove '..Said' where nothing that the law and all that it calls make is longer than what came in: it says more and counts as full. Else prove '..UptoSaid'. A law counts once. -/
mutual
def uptoBulk {H : Type} : DataW H → Nat
  | .lit (.string bytes) => bytes.length + 1
  | .lit _ => 1
  | .nil => 1
  | .ptr d => uptoBulk d + 1
  | .slice elems spare => uptoBulkAll elems + uptoBulkAll spare + 1
  | .agg parts => uptoBulkAll parts + 1
  | .iface _ d => uptoBulk d + 1
  | .map entries => uptoBulkEntries entries + 1
  | .held _ => 1
def uptoBulkAll {H : Type} : List (DataW H) → Nat
  | [] => 0
  | d :: r => uptoBulk d + uptoBulkAll r
def uptoBulkEntries {H : Type} : List (Lit × DataW H) → Nat
  | [] => 0
  | x :: r => uptoBulkEntry x + uptoBulkEntries r
def uptoBulkEntry {H : Type} : Lit × DataW H → Nat
  | (.string bytes, d) => bytes.length + uptoBulk d + 1
  | (_, d) => uptoBulk d + 1
 end
def uptoSmall : (H : Type) → List (DataW H) → Bool := fun _ ds => decide (uptoBulkAll ds ≤ 1048576)
def OpenSpec.upto (s : _root_.Go.ChangeSpec) : _root_.Go.OpenSpec := { _root_.Go.OpenSpec.ofChange s with cond := some uptoSmall }

/-- 'laws.FnExactNewTree', WHERE WHAT IT READS IS OF BULK AT MOST 1048576: true; the input reads as it did. -/
def fnExactNewTreeUptoRow : OpenClaim := { program := "ytcephdpooijciaa", sum := "ac61c19bed9fe76779cd23cb9a9861faa16eb8742a4e6bc8b9d55652946eb77b", func := "loop.example/g00680/laws.FnExactNewTree", spec := "fnExactNewTree", apart := false, narrowed := true }
def FnExactNewTreeUptoSaid : Prop := fnExactNewTreeUptoRow.holds Try.pinned (OpenSpec.upto fnExactNewTreeSpec)

/-- 'laws.FnExactSeedsOf', WHERE WHAT IT READS IS OF BULK AT MOST 1048576: true; the input reads as it did. -/
def fnExactSeedsOfUptoRow : OpenClaim := { program := "ytcephdpooijciaa", sum := "ac61c19bed9fe76779cd23cb9a9861faa16eb8742a4e6bc8b9d55652946eb77b", func := "loop.example/g00680/laws.FnExactSeedsOf", spec := "fnExactSeedsOf", unfollowed := true, recurses := true, apart := false, narrowed := true }
def FnExactSeedsOfUptoSaid : Prop := fnExactSeedsOfUptoRow.holds Try.pinned (OpenSpec.upto fnExactSeedsOfSpec)

/-- 'laws.FnExactBoxOf', WHERE WHAT IT READS IS OF BULK AT MOST 1048576: true; the input reads as it did. -/
def fnExactBoxOfUptoRow : OpenClaim := { program := "ytcephdpooijciaa", sum := "ac61c19bed9fe76779cd23cb9a9861faa16eb8742a4e6bc8b9d55652946eb77b", func := "loop.example/g00680/laws.FnExactBoxOf", spec := "fnExactBoxOf", unfollowed := true, recurses := true, apart := false, narrowed := true }
def FnExactBoxOfUptoSaid : Prop := fnExactBoxOfUptoRow.holds Try.pinned (OpenSpec.upto fnExactBoxOfSpec)

/-- 'laws.FnExactBusyIn', WHERE WHAT IT READS IS OF BULK AT MOST 1048576: true; the input reads as it did. -/
def fnExactBusyInUptoRow : OpenClaim := { program := "ytcephdpooijciaa", sum := "ac61c19bed9fe76779cd23cb9a9861faa16eb8742a4e6bc8b9d55652946eb77b", func := "loop.example/g00680/laws.FnExactBusyIn", spec := "fnExactBusyIn", apart := false, narrowed := true }
def FnExactBusyInUptoSaid : Prop := fnExactBusyInUptoRow.holds Try.pinned (OpenSpec.upto fnExactBusyInSpec)

/-- 'laws.FnExactTakePair', WHERE WHAT IT READS IS OF BULK AT MOST 1048576: true; the input reads as it did. -/
def fnExactTakePairUptoRow : OpenClaim := { program := "ytcephdpooijciaa", sum := "ac61c19bed9fe76779cd23cb9a9861faa16eb8742a4e6bc8b9d55652946eb77b", func := "loop.example/g00680/laws.FnExactTakePair", spec := "fnExactTakePair", unfollowed := true, recurses := true, apart := false, narrowed := true }
def FnExactTakePairUptoSaid : Prop := fnExactTakePairUptoRow.holds Try.pinned (OpenSpec.upto fnExactTakePairSpec)

/-- 'laws.FnExactAddPair', WHERE WHAT IT READS IS OF BULK AT MOST 1048576: true; the input reads as it did. -/
def fnExactAddPairUptoRow : OpenClaim := { program := "ytcephdpooijciaa", sum := "ac61c19bed9fe76779cd23cb9a9861faa16eb8742a4e6bc8b9d55652946eb77b", func := "loop.example/g00680/laws.FnExactAddPair", spec := "fnExactAddPair", inPlace := ["slices.overlaps[loop.example/g00680/impl.Pair]"], unfollowed := true, recurses := true, apart := false, narrowed := true }
def FnExactAddPairUptoSaid : Prop := fnExactAddPairUptoRow.holds Try.pinned (OpenSpec.upto fnExactAddPairSpec)

/-- 'laws.FnExactWithEntry', WHERE WHAT IT READS IS OF BULK AT MOST 1048576: true; the input reads as it did. -/
def fnExactWithEntryUptoRow : OpenClaim := { program := "ytcephdpooijciaa", sum := "ac61c19bed9fe76779cd23cb9a9861faa16eb8742a4e6bc8b9d55652946eb77b", func := "loop.example/g00680/laws.FnExactWithEntry", spec := "fnExactWithEntry", unfollowed := true, recurses := true, apart := false, narrowed := true }
def FnExactWithEntryUptoSaid : Prop := fnExactWithEntryUptoRow.holds Try.pinned (OpenSpec.upto fnExactWithEntrySpec)

/-- 'laws.FnExactWithoutEntry', WHERE WHAT IT READS IS OF BULK AT MOST 1048576: true; the input reads as it did. -/
def fnExactWithoutEntryUptoRow : OpenClaim := { program := "ytcephdpooijciaa", sum := "ac61c19bed9fe76779cd23cb9a9861faa16eb8742a4e6bc8b9d55652946eb77b", func := "loop.example/g00680/laws.FnExactWithoutEntry", spec := "fnExactWithoutEntry", unfollowed := true, recurses := true, apart := false, narrowed := true }
def FnExactWithoutEntryUptoSaid : Prop := fnExactWithoutEntryUptoRow.holds Try.pinned (OpenSpec.upto fnExactWithoutEntrySpec)

/-- 'laws.FnExactWidenEntry', WHERE WHAT IT READS IS OF BULK AT MOST 1048576: true; the input reads as it did. -/
def fnExactWidenEntryUptoRow : OpenClaim := { program := "ytcephdpooijciaa", sum := "ac61c19bed9fe76779cd23cb9a9861faa16eb8742a4e6bc8b9d55652946eb77b", func := "loop.example/g00680/laws.FnExactWidenEntry", spec := "fnExactWidenEntry", unfollowed := true, recurses := true, apart := false, narrowed := true }
def FnExactWidenEntryUptoSaid : Prop := fnExactWidenEntryUptoRow.holds Try.pinned (OpenSpec.upto fnExactWidenEntrySpec)

end Rows
end Go.Proofs.Ytcephdpooijciaa
