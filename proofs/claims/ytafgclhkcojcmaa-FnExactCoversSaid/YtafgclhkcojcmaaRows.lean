/-
  No cell of these rows narrows 'for every input' (looked for: loops, veiled, ifaces, maps, wideKeys, modest, calm, conditions, laid).
  DERIVED. THE GIVEN ROWS OF THIS SEAT. 6 by the template 'for every input the law returns true; each argument reads behind the call as it read before'; 0 by the template 'total and deterministic' (their statements: YtafgclhkcojcmaaTotals.lean).
  GIVEN WITH THE SEED: the statements are not yours to turn. If you find one false, say at which input.
  Laid BY PROGRAM, IN A SANDBOX (cutbox-rows.mjs): the forced cells as the released guide's own fill.sh prints them over the translation e1817ef7ffa731fd… (all of the seat's roots in one cut). By AI agents, Wed Nov 11 2026. No macro, syntax, notation, axiom, sorry.
-/
import Derived.Test.YtafgclhkcojcmaaChecked
import GoSem.Claim
import GoSem.ClaimJoined
import GoSem.ClaimMapViews
import Derived.JoinedTies
import Derived.KernelRfl
namespace Go.Proofs.Ytafgclhkcojcmaa
/- THE CELL 'sum', in the pinned program and in every row, IS THE sha256 OF THE DUMP (.gsa) THAT YtafgclhkcojcmaaProg.lean LOADS. Nothing in Lean hashes anything: it is a label: what it is worth is what the hold of that sum in a sandbox is worth. -/
noncomputable def Try.pinned : Pinned := { name := "ytafgclhkcojcmaa", sum := "e1817ef7ffa731fd96ff782ddca63680d2dbeb312617608d86c63537450cb829", checked := Try.checked }
namespace Rows
def none {H : Type} : Left H := { results := [], args := [] }

/-- 'laws.FnExactConstants': WHATEVER THE INPUT: true; the input reads as it did. -/
def fnExactConstantsSpec : ChangeSpec := { name := "fnExactConstants", fn := fun _ => fun
  | [] => { results := [.lit (.bool true)], args := [] }
  | _ => none }
def fnExactConstantsRow : OpenClaim := { program := "ytafgclhkcojcmaa", sum := "e1817ef7ffa731fd96ff782ddca63680d2dbeb312617608d86c63537450cb829", func := "loop.example/g00680/laws.FnExactConstants", spec := "fnExactConstants", apart := false }
def FnExactConstantsSaid : Prop := fnExactConstantsRow.holds Try.pinned (OpenSpec.ofChange fnExactConstantsSpec)

/-- ITS FALSE NEIGHBOUR: 'it returns false'. Refute it at one input. -/
def fnExactConstantsWrong : ChangeSpec := { name := "fnExactConstants", fn := fun _ => fun
  | [] => { results := [.lit (.bool false)], args := [] }
  | _ => none }
def FnExactConstantsWrongFalsely : Prop := fnExactConstantsRow.holds Try.pinned (OpenSpec.ofChange fnExactConstantsWrong)

/-- 'laws.FnExactPointFault': WHATEVER THE INPUT: true; the input reads as it did. -/
def fnExactPointFaultSpec : ChangeSpec := { name := "fnExactPointFault", fn := fun _ => fun
  | [d1, d2] => { results := [.lit (.bool true)], args := [d1, d2] }
  | _ => none }
def fnExactPointFaultRow : OpenClaim := { program := "ytafgclhkcojcmaa", sum := "e1817ef7ffa731fd96ff782ddca63680d2dbeb312617608d86c63537450cb829", func := "loop.example/g00680/laws.FnExactPointFault", spec := "fnExactPointFault", unfollowed := true, recurses := true, apart := false }
def FnExactPointFaultSaid : Prop := fnExactPointFaultRow.holds Try.pinned (OpenSpec.ofChange fnExactPointFaultSpec)

/-- ITS FALSE NEIGHBOUR: 'it returns false'. Refute it at one input. -/
def fnExactPointFaultWrong : ChangeSpec := { name := "fnExactPointFault", fn := fun _ => fun
  | [d1, d2] => { results := [.lit (.bool false)], args := [d1, d2] }
  | _ => none }
def FnExactPointFaultWrongFalsely : Prop := fnExactPointFaultRow.holds Try.pinned (OpenSpec.ofChange fnExactPointFaultWrong)

/-- 'laws.FnExactSameRects': WHATEVER THE INPUT: true; the input reads as it did. -/
def fnExactSameRectsSpec : ChangeSpec := { name := "fnExactSameRects", fn := fun _ => fun
  | [d1, d2] => { results := [.lit (.bool true)], args := [d1, d2] }
  | _ => none }
def fnExactSameRectsRow : OpenClaim := { program := "ytafgclhkcojcmaa", sum := "e1817ef7ffa731fd96ff782ddca63680d2dbeb312617608d86c63537450cb829", func := "loop.example/g00680/laws.FnExactSameRects", spec := "fnExactSameRects", apart := false }
def FnExactSameRectsSaid : Prop := fnExactSameRectsRow.holds Try.pinned (OpenSpec.ofChange fnExactSameRectsSpec)

/-- ITS FALSE NEIGHBOUR: 'it returns false'. Refute it at one input. -/
def fnExactSameRectsWrong : ChangeSpec := { name := "fnExactSameRects", fn := fun _ => fun
  | [d1, d2] => { results := [.lit (.bool false)], args := [d1, d2] }
  | _ => none }
def FnExactSameRectsWrongFalsely : Prop := fnExactSameRectsRow.holds Try.pinned (OpenSpec.ofChange fnExactSameRectsWrong)

/-- 'laws.FnExactRectFault': WHATEVER THE INPUT: true; the input reads as it did. -/
def fnExactRectFaultSpec : ChangeSpec := { name := "fnExactRectFault", fn := fun _ => fun
  | [d1, d2] => { results := [.lit (.bool true)], args := [d1, d2] }
  | _ => none }
def fnExactRectFaultRow : OpenClaim := { program := "ytafgclhkcojcmaa", sum := "e1817ef7ffa731fd96ff782ddca63680d2dbeb312617608d86c63537450cb829", func := "loop.example/g00680/laws.FnExactRectFault", spec := "fnExactRectFault", unfollowed := true, recurses := true, apart := false }
def FnExactRectFaultSaid : Prop := fnExactRectFaultRow.holds Try.pinned (OpenSpec.ofChange fnExactRectFaultSpec)

/-- ITS FALSE NEIGHBOUR: 'it returns false'. Refute it at one input. -/
def fnExactRectFaultWrong : ChangeSpec := { name := "fnExactRectFault", fn := fun _ => fun
  | [d1, d2] => { results := [.lit (.bool false)], args := [d1, d2] }
  | _ => none }
def FnExactRectFaultWrongFalsely : Prop := fnExactRectFaultRow.holds Try.pinned (OpenSpec.ofChange fnExactRectFaultWrong)

/-- 'laws.FnExactConfigFault': WHATEVER THE INPUT: true; the input reads as it did. -/
def fnExactConfigFaultSpec : ChangeSpec := { name := "fnExactConfigFault", fn := fun _ => fun
  | [d] => { results := [.lit (.bool true)], args := [d] }
  | _ => none }
def fnExactConfigFaultRow : OpenClaim := { program := "ytafgclhkcojcmaa", sum := "e1817ef7ffa731fd96ff782ddca63680d2dbeb312617608d86c63537450cb829", func := "loop.example/g00680/laws.FnExactConfigFault", spec := "fnExactConfigFault", apart := false }
def FnExactConfigFaultSaid : Prop := fnExactConfigFaultRow.holds Try.pinned (OpenSpec.ofChange fnExactConfigFaultSpec)

/-- ITS FALSE NEIGHBOUR: 'it returns false'. Refute it at one input. -/
def fnExactConfigFaultWrong : ChangeSpec := { name := "fnExactConfigFault", fn := fun _ => fun
  | [d] => { results := [.lit (.bool false)], args := [d] }
  | _ => none }
def FnExactConfigFaultWrongFalsely : Prop := fnExactConfigFaultRow.holds Try.pinned (OpenSpec.ofChange fnExactConfigFaultWrong)

/-- 'laws.FnExactCovers': WHATEVER THE INPUT: true; the input reads as it did. -/
def fnExactCoversSpec : ChangeSpec := { name := "fnExactCovers", fn := fun _ => fun
  | [d1, d2] => { results := [.lit (.bool true)], args := [d1, d2] }
  | _ => none }
def fnExactCoversRow : OpenClaim := { program := "ytafgclhkcojcmaa", sum := "e1817ef7ffa731fd96ff782ddca63680d2dbeb312617608d86c63537450cb829", func := "loop.example/g00680/laws.FnExactCovers", spec := "fnExactCovers", unfollowed := true, recurses := true, apart := false }
def FnExactCoversSaid : Prop := fnExactCoversRow.holds Try.pinned (OpenSpec.ofChange fnExactCoversSpec)

/-- ITS FALSE NEIGHBOUR: 'it returns false'. Refute it at one input. -/
def fnExactCoversWrong : ChangeSpec := { name := "fnExactCovers", fn := fun _ => fun
  | [d1, d2] => { results := [.lit (.bool false)], args := [d1, d2] }
  | _ => none }
def FnExactCoversWrongFalsely : Prop := fnExactCoversRow.holds Try.pinned (OpenSpec.ofChange fnExactCoversWrong)

/- THE SECOND FORM. 'bulk': how many values and letters a reading holds, each counted each time it is reached (what is shared counts as often as it is met; a slice's spare places count too). A statement '..UptoSaid' is the law's where the arguments, and the package variables that the reading takes, are together of bulk at most 1048576: NARROWER than '..Said'. Prove '..Said' where nothing that the law and all that it calls make is longer than what came in: it says more and counts as full. Else prove '..UptoSaid'. A law counts once. -/
mutual
def uptoBulk {H : Type} : DataW H → Nat
  | .lit (.string bytes) => bytes.length + 1
  | .lit _ => 1
  | .nil => 1
  | .ptr d => uptoBulk d + 1
  | .slice elems spare => uptoBulkAll elems + uptoBulkAll spare + 1
  | .agg parts => uptoBulkAll parts + 1
  | .iface _ d => uptoBulk d + 1
  | .map entries => uptoBulkEntries entries + 1
  | .held _ => 1
def uptoBulkAll {H : Type} : List (DataW H) → Nat
  | [] => 0
  | d :: r => uptoBulk d + uptoBulkAll r
def uptoBulkEntries {H : Type} : List (Lit × DataW H) → Nat
  | [] => 0
  | x :: r => uptoBulkEntry x + uptoBulkEntries r
def uptoBulkEntry {H : Type} : Lit × DataW H → Nat
  | (.string bytes, d) => bytes.length + uptoBulk d + 1
  | (_, d) => uptoBulk d + 1
 end
def uptoSmall : (H : Type) → List (DataW H) → Bool := fun _ ds => decide (uptoBulkAll ds ≤ 1048576)
def OpenSpec.upto (s : _root_.Go.ChangeSpec) : _root_.Go.OpenSpec := { _root_.Go.OpenSpec.ofChange s with cond := some uptoSmall }

/-- 'laws.FnExactConstants', WHERE WHAT IT READS IS OF BULK AT MOST 1048576: true; the input reads as it did. -/
def fnExactConstantsUptoRow : OpenClaim := { program := "ytafgclhkcojcmaa", sum := "e1817ef7ffa731fd96ff782ddca63680d2dbeb312617608d86c63537450cb829", func := "loop.example/g00680/laws.FnExactConstants", spec := "fnExactConstants", apart := false, narrowed := true }
def FnExactConstantsUptoSaid : Prop := fnExactConstantsUptoRow.holds Try.pinned (OpenSpec.upto fnExactConstantsSpec)

/-- 'laws.FnExactPointFault', WHERE WHAT IT READS IS OF BULK AT MOST 1048576: true; the input reads as it did. -/
def fnExactPointFaultUptoRow : OpenClaim := { program := "ytafgclhkcojcmaa", sum := "e1817ef7ffa731fd96ff782ddca63680d2dbeb312617608d86c63537450cb829", func := "loop.example/g00680/laws.FnExactPointFault", spec := "fnExactPointFault", unfollowed := true, recurses := true, apart := false, narrowed := true }
def FnExactPointFaultUptoSaid : Prop := fnExactPointFaultUptoRow.holds Try.pinned (OpenSpec.upto fnExactPointFaultSpec)

/-- 'laws.FnExactSameRects', WHERE WHAT IT READS IS OF BULK AT MOST 1048576: true; the input reads as it did. -/
def fnExactSameRectsUptoRow : OpenClaim := { program := "ytafgclhkcojcmaa", sum := "e1817ef7ffa731fd96ff782ddca63680d2dbeb312617608d86c63537450cb829", func := "loop.example/g00680/laws.FnExactSameRects", spec := "fnExactSameRects", apart := false, narrowed := true }
def FnExactSameRectsUptoSaid : Prop := fnExactSameRectsUptoRow.holds Try.pinned (OpenSpec.upto fnExactSameRectsSpec)

/-- 'laws.FnExactRectFault', WHERE WHAT IT READS IS OF BULK AT MOST 1048576: true; the input reads as it did. -/
def fnExactRectFaultUptoRow : OpenClaim := { program := "ytafgclhkcojcmaa", sum := "e1817ef7ffa731fd96ff782ddca63680d2dbeb312617608d86c63537450cb829", func := "loop.example/g00680/laws.FnExactRectFault", spec := "fnExactRectFault", unfollowed := true, recurses := true, apart := false, narrowed := true }
def FnExactRectFaultUptoSaid : Prop := fnExactRectFaultUptoRow.holds Try.pinned (OpenSpec.upto fnExactRectFaultSpec)

/-- 'laws.FnExactConfigFault', WHERE WHAT IT READS IS OF BULK AT MOST 1048576: true; the input reads as it did. -/
def fnExactConfigFaultUptoRow : OpenClaim := { program := "ytafgclhkcojcmaa", sum := "e1817ef7ffa731fd96ff782ddca63680d2dbeb312617608d86c63537450cb829", func := "loop.example/g00680/laws.FnExactConfigFault", spec := "fnExactConfigFault", apart := false, narrowed := true }
def FnExactConfigFaultUptoSaid : Prop := fnExactConfigFaultUptoRow.holds Try.pinned (OpenSpec.upto fnExactConfigFaultSpec)

/-- 'laws.FnExactCovers', WHERE WHAT IT READS IS OF BULK AT MOST 1048576: true; the input reads as it did. -/
def fnExactCoversUptoRow : OpenClaim := { program := "ytafgclhkcojcmaa", sum := "e1817ef7ffa731fd96ff782ddca63680d2dbeb312617608d86c63537450cb829", func := "loop.example/g00680/laws.FnExactCovers", spec := "fnExactCovers", unfollowed := true, recurses := true, apart := false, narrowed := true }
def FnExactCoversUptoSaid : Prop := fnExactCoversUptoRow.holds Try.pinned (OpenSpec.upto fnExactCoversSpec)

end Rows
end Go.Proofs.Ytafgclhkcojcmaa
