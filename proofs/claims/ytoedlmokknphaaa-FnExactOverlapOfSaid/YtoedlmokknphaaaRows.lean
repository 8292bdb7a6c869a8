/-
  No cell of these rows narrows 'for every input' (looked for: loops, veiled, ifaces, maps, wideKeys, modest, calm, conditions, laid).
  DERIVED. THE GIVEN ROWS OF THIS SEAT. 6 by the template 'for every input the law returns true; each argument reads behind the call as it read before'; 0 by the template 'total and deterministic' (their statements: YtoedlmokknphaaaTotals.lean).
  GIVEN WITH THE SEED: the statements are not yours to turn. If you find one false, say at which input.
  Laid BY PROGRAM, IN A SANDBOX (cutbox-rows.mjs): the forced cells as the released guide's own fill.sh prints them over the translation ca3baf5a8623e69a… (all of the seat's roots in one cut). By AI agents, Wed Nov 11 2026. No macro, syntax, notation, axiom, sorry.
-/
import Derived.Test.YtoedlmokknphaaaChecked
import GoSem.Claim
import GoSem.ClaimJoined
import GoSem.ClaimMapViews
import Derived.JoinedTies
import Derived.KernelRfl
namespace Go.Proofs.Ytoedlmokknphaaa
/- THE CELL 'sum', in the pinned program and in every row, IS THE sha256 OF THE DUMP (.gsa) THAT YtoedlmokknphaaaProg.lean LOADS. Nothing in Lean hashes anything: it is a label: what it is worth is what the hold of that sum in a sandbox is worth. -/
noncomputable def Try.pinned : Pinned := { name := "ytoedlmokknphaaa", sum := "ca3baf5a8623e69a3395329b7ca90cd1ab8d997b674384218c19f5ad13f8b23f", checked := Try.checked }
namespace Rows
def none {H : Type} : Left H := { results := [], args := [] }

/-- 'laws.FnExactSamePairs': WHATEVER THE INPUT: true; the input reads as it did. -/
def fnExactSamePairsSpec : ChangeSpec := { name := "fnExactSamePairs", fn := fun _ => fun
  | [d1, d2] => { results := [.lit (.bool true)], args := [d1, d2] }
  | _ => none }
def fnExactSamePairsRow : OpenClaim := { program := "ytoedlmokknphaaa", sum := "ca3baf5a8623e69a3395329b7ca90cd1ab8d997b674384218c19f5ad13f8b23f", func := "loop.example/g00680/laws.FnExactSamePairs", spec := "fnExactSamePairs", unfollowed := true, recurses := true, apart := false }
def FnExactSamePairsSaid : Prop := fnExactSamePairsRow.holds Try.pinned (OpenSpec.ofChange fnExactSamePairsSpec)

/-- ITS FALSE NEIGHBOUR: 'it returns false'. Refute it at one input. -/
def fnExactSamePairsWrong : ChangeSpec := { name := "fnExactSamePairs", fn := fun _ => fun
  | [d1, d2] => { results := [.lit (.bool false)], args := [d1, d2] }
  | _ => none }
def FnExactSamePairsWrongFalsely : Prop := fnExactSamePairsRow.holds Try.pinned (OpenSpec.ofChange fnExactSamePairsWrong)

/-- 'laws.FnExactAreaOf': WHATEVER THE INPUT: true; the input reads as it did. -/
def fnExactAreaOfSpec : ChangeSpec := { name := "fnExactAreaOf", fn := fun _ => fun
  | [d] => { results := [.lit (.bool true)], args := [d] }
  | _ => none }
def fnExactAreaOfRow : OpenClaim := { program := "ytoedlmokknphaaa", sum := "ca3baf5a8623e69a3395329b7ca90cd1ab8d997b674384218c19f5ad13f8b23f", func := "loop.example/g00680/laws.FnExactAreaOf", spec := "fnExactAreaOf", unfollowed := true, recurses := true, apart := false }
def FnExactAreaOfSaid : Prop := fnExactAreaOfRow.holds Try.pinned (OpenSpec.ofChange fnExactAreaOfSpec)

/-- ITS FALSE NEIGHBOUR: 'it returns false'. Refute it at one input. -/
def fnExactAreaOfWrong : ChangeSpec := { name := "fnExactAreaOf", fn := fun _ => fun
  | [d] => { results := [.lit (.bool false)], args := [d] }
  | _ => none }
def FnExactAreaOfWrongFalsely : Prop := fnExactAreaOfRow.holds Try.pinned (OpenSpec.ofChange fnExactAreaOfWrong)

/-- 'laws.FnExactMarginOf': WHATEVER THE INPUT: true; the input reads as it did. -/
def fnExactMarginOfSpec : ChangeSpec := { name := "fnExactMarginOf", fn := fun _ => fun
  | [d] => { results := [.lit (.bool true)], args := [d] }
  | _ => none }
def fnExactMarginOfRow : OpenClaim := { program := "ytoedlmokknphaaa", sum := "ca3baf5a8623e69a3395329b7ca90cd1ab8d997b674384218c19f5ad13f8b23f", func := "loop.example/g00680/laws.FnExactMarginOf", spec := "fnExactMarginOf", unfollowed := true, recurses := true, apart := false }
def FnExactMarginOfSaid : Prop := fnExactMarginOfRow.holds Try.pinned (OpenSpec.ofChange fnExactMarginOfSpec)

/-- ITS FALSE NEIGHBOUR: 'it returns false'. Refute it at one input. -/
def fnExactMarginOfWrong : ChangeSpec := { name := "fnExactMarginOf", fn := fun _ => fun
  | [d] => { results := [.lit (.bool false)], args := [d] }
  | _ => none }
def FnExactMarginOfWrongFalsely : Prop := fnExactMarginOfRow.holds Try.pinned (OpenSpec.ofChange fnExactMarginOfWrong)

/-- 'laws.FnExactDistOf': WHATEVER THE INPUT: true; the input reads as it did. -/
def fnExactDistOfSpec : ChangeSpec := { name := "fnExactDistOf", fn := fun _ => fun
  | [d1, d2] => { results := [.lit (.bool true)], args := [d1, d2] }
  | _ => none }
def fnExactDistOfRow : OpenClaim := { program := "ytoedlmokknphaaa", sum := "ca3baf5a8623e69a3395329b7ca90cd1ab8d997b674384218c19f5ad13f8b23f", func := "loop.example/g00680/laws.FnExactDistOf", spec := "fnExactDistOf", unfollowed := true, recurses := true, apart := false }
def FnExactDistOfSaid : Prop := fnExactDistOfRow.holds Try.pinned (OpenSpec.ofChange fnExactDistOfSpec)

/-- ITS FALSE NEIGHBOUR: 'it returns false'. Refute it at one input. -/
def fnExactDistOfWrong : ChangeSpec := { name := "fnExactDistOf", fn := fun _ => fun
  | [d1, d2] => { results := [.lit (.bool false)], args := [d1, d2] }
  | _ => none }
def FnExactDistOfWrongFalsely : Prop := fnExactDistOfRow.holds Try.pinned (OpenSpec.ofChange fnExactDistOfWrong)

/-- 'laws.FnExactQueryFault': WHATEVER THE INPUT: true; the input reads as it did. -/
def fnExactQueryFaultSpec : ChangeSpec := { name := "fnExactQueryFault", fn := fun _ => fun
  | [d1, d2] => { results := [.lit (.bool true)], args := [d1, d2] }
  | _ => none }
def fnExactQueryFaultRow : OpenClaim := { program := "ytoedlmokknphaaa", sum := "ca3baf5a8623e69a3395329b7ca90cd1ab8d997b674384218c19f5ad13f8b23f", func := "loop.example/g00680/laws.FnExactQueryFault", spec := "fnExactQueryFault", unfollowed := true, recurses := true, apart := false }
def FnExactQueryFaultSaid : Prop := fnExactQueryFaultRow.holds Try.pinned (OpenSpec.ofChange fnExactQueryFaultSpec)

/-- ITS FALSE NEIGHBOUR: 'it returns false'. Refute it at one input. -/
def fnExactQueryFaultWrong : ChangeSpec := { name := "fnExactQueryFault", fn := fun _ => fun
  | [d1, d2] => { results := [.lit (.bool false)], args := [d1, d2] }
  | _ => none }
def FnExactQueryFaultWrongFalsely : Prop := fnExactQueryFaultRow.holds Try.pinned (OpenSpec.ofChange fnExactQueryFaultWrong)

/-- 'laws.FnExactOverlapOf': WHATEVER THE INPUT: true; the input reads as it did. -/
def fnExactOverlapOfSpec : ChangeSpec := { name := "fnExactOverlapOf", fn := fun _ => fun
  | [d1, d2] => { results := [.lit (.bool true)], args := [d1, d2] }
  | _ => none }
def fnExactOverlapOfRow : OpenClaim := { program := "ytoedlmokknphaaa", sum := "ca3baf5a8623e69a3395329b7ca90cd1ab8d997b674384218c19f5ad13f8b23f", func := "loop.example/g00680/laws.FnExactOverlapOf", spec := "fnExactOverlapOf", unfollowed := true, recurses := true, apart := false }
def FnExactOverlapOfSaid : Prop := fnExactOverlapOfRow.holds Try.pinned (OpenSpec.ofChange fnExactOverlapOfSpec)

/-- ITS FALSE NEIGHBOUR: 'it returns false'. Refute it at one input. -/
def fnExactOverlapOfWrong : ChangeSpec := { name := "fnExactOverlapOf", fn := fun _ => fun
  | [d1, d2] => { results := [.lit (.bool false)], args := [d1, d2] }
  | _ => none }
def FnExactOverlapOfWrongFalsely : Prop := fnExactOverlapOfRow.holds Try.pinned (OpenSpec.ofChange fnExactOverlapOfWrong)

/- THE SECOND FORM. 'bulk': how many values and letters a reading holds, each counted each time it is reached (what is shared counts as often as it is met; a slice's spare places count too). A statement '..UptoSaid' is the law's where the arguments, and the package variables that the reading takes, are together of bulk at most 1048576: NARROWER than '..Said'. Prove '..Said' where nothing that the law and all that it calls make is longer than what came in: it says more and counts as full. Else prove '..UptoSaid'. A law counts once. -/
mutual
def uptoBulk {H : Type} : DataW H → Nat
  | .lit (.string bytes) => bytes.length + 1
  | .lit _ => 1
  | .nil => 1
  | .ptr d => uptoBulk d + 1
  | .slice elems spare => uptoBulkAll elems + uptoBulkAll spare + 1
  | .agg parts => uptoBulkAll parts + 1
  | .iface _ d => uptoBulk d + 1
  | .map entries => uptoBulkEntries entries + 1
  | .held _ => 1
def uptoBulkAll {H : Type} : List (DataW H) → Nat
  | [] => 0
  | d :: r => uptoBulk d + uptoBulkAll r
def uptoBulkEntries {H : Type} : List (Lit × DataW H) → Nat
  | [] => 0
  | x :: r => uptoBulkEntry x + uptoBulkEntries r
def uptoBulkEntry {H : Type} : Lit × DataW H → Nat
  | (.string bytes, d) => bytes.length + uptoBulk d + 1
  | (_, d) => uptoBulk d + 1
 end
def uptoSmall : (H : Type) → List (DataW H) → Bool := fun _ ds => decide (uptoBulkAll ds ≤ 1048576)
def OpenSpec.upto (s : _root_.Go.ChangeSpec) : _root_.Go.OpenSpec := { _root_.Go.OpenSpec.ofChange s with cond := some uptoSmall }

/-- 'laws.FnExactSamePairs', WHERE WHAT IT READS IS OF BULK AT MOST 1048576: true; the input reads as it did. -/
def fnExactSamePairsUptoRow : OpenClaim := { program := "ytoedlmokknphaaa", sum := "ca3baf5a8623e69a3395329b7ca90cd1ab8d997b674384218c19f5ad13f8b23f", func := "loop.example/g00680/laws.FnExactSamePairs", spec := "fnExactSamePairs", unfollowed := true, recurses := true, apart := false, narrowed := true }
def FnExactSamePairsUptoSaid : Prop := fnExactSamePairsUptoRow.holds Try.pinned (OpenSpec.upto fnExactSamePairsSpec)

/-- 'laws.FnExactAreaOf', WHERE WHAT IT READS IS OF BULK AT MOST 1048576: true; the input reads as it did. -/
def fnExactAreaOfUptoRow : OpenClaim := { program := "ytoedlmokknphaaa", sum := "ca3baf5a8623e69a3395329b7ca90cd1ab8d997b674384218c19f5ad13f8b23f", func := "loop.example/g00680/laws.FnExactAreaOf", spec := "fnExactAreaOf", unfollowed := true, recurses := true, apart := false, narrowed := true }
def FnExactAreaOfUptoSaid : Prop := fnExactAreaOfUptoRow.holds Try.pinned (OpenSpec.upto fnExactAreaOfSpec)

/-- 'laws.FnExactMarginOf', WHERE WHAT IT READS IS OF BULK AT MOST 1048576: true; the input reads as it did. -/
def fnExactMarginOfUptoRow : OpenClaim := { program := "ytoedlmokknphaaa", sum := "ca3baf5a8623e69a3395329b7ca90cd1ab8d997b674384218c19f5ad13f8b23f", func := "loop.example/g00680/laws.FnExactMarginOf", spec := "fnExactMarginOf", unfollowed := true, recurses := true, apart := false, narrowed := true }
def FnExactMarginOfUptoSaid : Prop := fnExactMarginOfUptoRow.holds Try.pinned (OpenSpec.upto fnExactMarginOfSpec)

/-- 'laws.FnExactDistOf', WHERE WHAT IT READS IS OF BULK AT MOST 1048576: true; the input reads as it did. -/
def fnExactDistOfUptoRow : OpenClaim := { program := "ytoedlmokknphaaa", sum := "ca3baf5a8623e69a3395329b7ca90cd1ab8d997b674384218c19f5ad13f8b23f", func := "loop.example/g00680/laws.FnExactDistOf", spec := "fnExactDistOf", unfollowed := true, recurses := true, apart := false, narrowed := true }
def FnExactDistOfUptoSaid : Prop := fnExactDistOfUptoRow.holds Try.pinned (OpenSpec.upto fnExactDistOfSpec)

/-- 'laws.FnExactQueryFault', WHERE WHAT IT READS IS OF BULK AT MOST 1048576: true; the input reads as it did. -/
def fnExactQueryFaultUptoRow : OpenClaim := { program := "ytoedlmokknphaaa", sum := "ca3baf5a8623e69a3395329b7ca90cd1ab8d997b674384218c19f5ad13f8b23f", func := "loop.example/g00680/laws.FnExactQueryFault", spec := "fnExactQueryFault", unfollowed := true, recurses := true, apart := false, narrowed := true }
def FnExactQueryFaultUptoSaid : Prop := fnExactQueryFaultUptoRow.holds Try.pinned (OpenSpec.upto fnExactQueryFaultSpec)

/-- 'laws.FnExactOverlapOf', WHERE WHAT IT READS IS OF BULK AT MOST 1048576: true; the input reads as it did. -/
def fnExactOverlapOfUptoRow : OpenClaim := { program := "ytoedlmokknphaaa", sum := "ca3baf5a8623e69a3395329b7ca90cd1ab8d997b674384218c19f5ad13f8b23f", func := "loop.example/g00680/laws.FnExactOverlapOf", spec := "fnExactOverlapOf", unfollowed := true, recurses := true, apart := false, narrowed := true }
def FnExactOverlapOfUptoSaid : Prop := fnExactOverlapOfUptoRow.holds Try.pinned (OpenSpec.upto fnExactOverlapOfSpec)

end Rows
end Go.Proofs.Ytoedlmokknphaaa
