/-
  No cell of these rows narrows 'for every input' (looked for: loops, veiled, ifaces, maps, wideKeys, modest, calm, conditions, laid).
  DERIVED. THE GIVEN ROWS OF THIS SEAT. 5 by the template 'for every input the law returns true; each argument reads behind the call as it read before'; 0 by the template 'total and deterministic' (their statements: YthhnecbfcpmpbaaTotals.lean).
  GIVEN WITH THE SEED: the statements are not yours to turn. If you find one false, say at which input.
  Laid BY PROGRAM, IN A SANDBOX (cutbox-rows.mjs): the forced cells as the released guide's own fill.sh prints them over the translation 54f9e8adba43b294… (all of the seat's roots in one cut). By AI agents, Wed Nov 11 2026. No macro, syntax, notation, axiom, sorry.
-/
import Derived.Test.YthhnecbfcpmpbaaChecked
import GoSem.Claim
import GoSem.ClaimJoined
import GoSem.ClaimMapViews
import Derived.JoinedTies
import Derived.KernelRfl
namespace Go.Proofs.Ythhnecbfcpmpbaa
/- THE CELL 'sum', in the pinned program and in every row, IS THE sha256 OF THE DUMP (.gsa) THAT YthhnecbfcpmpbaaProg.lean LOADS. Nothing in Lean hashes anything: it is a label: what it is worth is what the hold of that sum in a sandbox is worth. -/
noncomputable def Try.pinned : Pinned := { name := "ythhnecbfcpmpbaa", sum := "54f9e8adba43b294b874d3ced059ec5d50df9a8501c2fd3b094bc5f63d55c50a", checked := Try.checked }
namespace Rows
def none {H : Type} : Left H := { results := [], args := [] }

/-- 'surmiselaw03.ExprChecks': WHATEVER THE INPUT: true; the input reads as it did. -/
def exprChecksSpec : ChangeSpec := { name := "exprChecks", fn := fun _ => fun
  | [d1, d2, d3] => { results := [.lit (.bool true)], args := [d1, d2, d3] }
  | _ => none }
def exprChecksRow : OpenClaim := { program := "ythhnecbfcpmpbaa", sum := "54f9e8adba43b294b874d3ced059ec5d50df9a8501c2fd3b094bc5f63d55c50a", func := "surmise/surmiselaw03.ExprChecks", spec := "exprChecks", unfollowed := true, recurses := true, apart := false }
def ExprChecksSaid : Prop := exprChecksRow.holds Try.pinned (OpenSpec.ofChange exprChecksSpec)

/-- ITS FALSE NEIGHBOUR: 'it returns false'. Refute it at one input. -/
def exprChecksWrong : ChangeSpec := { name := "exprChecks", fn := fun _ => fun
  | [d1, d2, d3] => { results := [.lit (.bool false)], args := [d1, d2, d3] }
  | _ => none }
def ExprChecksWrongFalsely : Prop := exprChecksRow.holds Try.pinned (OpenSpec.ofChange exprChecksWrong)

/-- 'surmiselaw03.ExprEvals': WHATEVER THE INPUT: true; the input reads as it did. -/
def exprEvalsSpec : ChangeSpec := { name := "exprEvals", fn := fun _ => fun
  | [d1, d2, d3] => { results := [.lit (.bool true)], args := [d1, d2, d3] }
  | _ => none }
def exprEvalsRow : OpenClaim := { program := "ythhnecbfcpmpbaa", sum := "54f9e8adba43b294b874d3ced059ec5d50df9a8501c2fd3b094bc5f63d55c50a", func := "surmise/surmiselaw03.ExprEvals", spec := "exprEvals", unfollowed := true, recurses := true, apart := false }
def ExprEvalsSaid : Prop := exprEvalsRow.holds Try.pinned (OpenSpec.ofChange exprEvalsSpec)

/-- ITS FALSE NEIGHBOUR: 'it returns false'. Refute it at one input. -/
def exprEvalsWrong : ChangeSpec := { name := "exprEvals", fn := fun _ => fun
  | [d1, d2, d3] => { results := [.lit (.bool false)], args := [d1, d2, d3] }
  | _ => none }
def ExprEvalsWrongFalsely : Prop := exprEvalsRow.holds Try.pinned (OpenSpec.ofChange exprEvalsWrong)

/-- 'surmiselaw03.ExprSame': WHATEVER THE INPUT: true; the input reads as it did. -/
def exprSameSpec : ChangeSpec := { name := "exprSame", fn := fun _ => fun
  | [d1, d2, d3] => { results := [.lit (.bool true)], args := [d1, d2, d3] }
  | _ => none }
def exprSameRow : OpenClaim := { program := "ythhnecbfcpmpbaa", sum := "54f9e8adba43b294b874d3ced059ec5d50df9a8501c2fd3b094bc5f63d55c50a", func := "surmise/surmiselaw03.ExprSame", spec := "exprSame", unfollowed := true, recurses := true, apart := false }
def ExprSameSaid : Prop := exprSameRow.holds Try.pinned (OpenSpec.ofChange exprSameSpec)

/-- ITS FALSE NEIGHBOUR: 'it returns false'. Refute it at one input. -/
def exprSameWrong : ChangeSpec := { name := "exprSame", fn := fun _ => fun
  | [d1, d2, d3] => { results := [.lit (.bool false)], args := [d1, d2, d3] }
  | _ => none }
def ExprSameWrongFalsely : Prop := exprSameRow.holds Try.pinned (OpenSpec.ofChange exprSameWrong)

/-- 'surmiselaw03.ExprUses': WHATEVER THE INPUT: true; the input reads as it did. -/
def exprUsesSpec : ChangeSpec := { name := "exprUses", fn := fun _ => fun
  | [d] => { results := [.lit (.bool true)], args := [d] }
  | _ => none }
def exprUsesRow : OpenClaim := { program := "ythhnecbfcpmpbaa", sum := "54f9e8adba43b294b874d3ced059ec5d50df9a8501c2fd3b094bc5f63d55c50a", func := "surmise/surmiselaw03.ExprUses", spec := "exprUses", unfollowed := true, recurses := true, apart := false }
def ExprUsesSaid : Prop := exprUsesRow.holds Try.pinned (OpenSpec.ofChange exprUsesSpec)

/-- ITS FALSE NEIGHBOUR: 'it returns false'. Refute it at one input. -/
def exprUsesWrong : ChangeSpec := { name := "exprUses", fn := fun _ => fun
  | [d] => { results := [.lit (.bool false)], args := [d] }
  | _ => none }
def ExprUsesWrongFalsely : Prop := exprUsesRow.holds Try.pinned (OpenSpec.ofChange exprUsesWrong)

/-- 'surmiselaw03.ExprValues': WHATEVER THE INPUT: true; the input reads as it did. -/
def exprValuesSpec : ChangeSpec := { name := "exprValues", fn := fun _ => fun
  | [d] => { results := [.lit (.bool true)], args := [d] }
  | _ => none }
def exprValuesRow : OpenClaim := { program := "ythhnecbfcpmpbaa", sum := "54f9e8adba43b294b874d3ced059ec5d50df9a8501c2fd3b094bc5f63d55c50a", func := "surmise/surmiselaw03.ExprValues", spec := "exprValues", unfollowed := true, recurses := true, apart := false }
def ExprValuesSaid : Prop := exprValuesRow.holds Try.pinned (OpenSpec.ofChange exprValuesSpec)

/-- ITS FALSE NEIGHBOUR: 'it returns false'. Refute it at one input. -/
def exprValuesWrong : ChangeSpec := { name := "exprValues", fn := fun _ => fun
  | [d] => { results := [.lit (.bool false)], args := [d] }
  | _ => none }
def ExprValuesWrongFalsely : Prop := exprValuesRow.holds Try.pinned (OpenSpec.ofChange exprValuesWrong)

/- THE SECOND FORM. 'bulk': how many values and letters a reading holds, each counted each time it is reached (what is shared counts as often as it is met; a slice's spare places count too). A statement '..UptoSaid' is the law's where the arguments, and the package variables that the reading takes, are together of bulk at most 1048576: NARROWER than '..Said'. Prove '..Said' where nothing that the law and all that it calls make is longer than what came in: it says more and counts as full. Else prove '..UptoSaid'. A law counts once. -/
mutual
def uptoBulk {H : Type} : DataW H → Nat
  | .lit (.string bytes) => bytes.length + 1
  | .lit _ => 1
  | .nil => 1
  | .ptr d => uptoBulk d + 1
  | .slice elems spare => uptoBulkAll elems + uptoBulkAll spare + 1
  | .agg parts => uptoBulkAll parts + 1
  | .iface _ d => uptoBulk d + 1
  | .map entries => uptoBulkEntries entries + 1
  | .held _ => 1
def uptoBulkAll {H : Type} : List (DataW H) → Nat
  | [] => 0
  | d :: r => uptoBulk d + uptoBulkAll r
def uptoBulkEntries {H : Type} : List (Lit × DataW H) → Nat
  | [] => 0
  | x :: r => uptoBulkEntry x + uptoBulkEntries r
def uptoBulkEntry {H : Type} : Lit × DataW H → Nat
  | (.string bytes, d) => bytes.length + uptoBulk d + 1
  | (_, d) => uptoBulk d + 1
 end
def uptoSmall : (H : Type) → List (DataW H) → Bool := fun _ ds => decide (uptoBulkAll ds ≤ 1048576)
def OpenSpec.upto (s : _root_.Go.ChangeSpec) : _root_.Go.OpenSpec := { _root_.Go.OpenSpec.ofChange s with cond := some uptoSmall }

/-- 'surmiselaw03.ExprChecks', WHERE WHAT IT READS IS OF BULK AT MOST 1048576: true; the input reads as it did. -/
def exprChecksUptoRow : OpenClaim := { program := "ythhnecbfcpmpbaa", sum := "54f9e8adba43b294b874d3ced059ec5d50df9a8501c2fd3b094bc5f63d55c50a", func := "surmise/surmiselaw03.ExprChecks", spec := "exprChecks", unfollowed := true, recurses := true, apart := false, narrowed := true }
def ExprChecksUptoSaid : Prop := exprChecksUptoRow.holds Try.pinned (OpenSpec.upto exprChecksSpec)

/-- 'surmiselaw03.ExprEvals', WHERE WHAT IT READS IS OF BULK AT MOST 1048576: true; the input reads as it did. -/
def exprEvalsUptoRow : OpenClaim := { program := "ythhnecbfcpmpbaa", sum := "54f9e8adba43b294b874d3ced059ec5d50df9a8501c2fd3b094bc5f63d55c50a", func := "surmise/surmiselaw03.ExprEvals", spec := "exprEvals", unfollowed := true, recurses := true, apart := false, narrowed := true }
def ExprEvalsUptoSaid : Prop := exprEvalsUptoRow.holds Try.pinned (OpenSpec.upto exprEvalsSpec)

/-- 'surmiselaw03.ExprSame', WHERE WHAT IT READS IS OF BULK AT MOST 1048576: true; the input reads as it did. -/
def exprSameUptoRow : OpenClaim := { program := "ythhnecbfcpmpbaa", sum := "54f9e8adba43b294b874d3ced059ec5d50df9a8501c2fd3b094bc5f63d55c50a", func := "surmise/surmiselaw03.ExprSame", spec := "exprSame", unfollowed := true, recurses := true, apart := false, narrowed := true }
def ExprSameUptoSaid : Prop := exprSameUptoRow.holds Try.pinned (OpenSpec.upto exprSameSpec)

/-- 'surmiselaw03.ExprUses', WHERE WHAT IT READS IS OF BULK AT MOST 1048576: true; the input reads as it did. -/
def exprUsesUptoRow : OpenClaim := { program := "ythhnecbfcpmpbaa", sum := "54f9e8adba43b294b874d3ced059ec5d50df9a8501c2fd3b094bc5f63d55c50a", func := "surmise/surmiselaw03.ExprUses", spec := "exprUses", unfollowed := true, recurses := true, apart := false, narrowed := true }
def ExprUsesUptoSaid : Prop := exprUsesUptoRow.holds Try.pinned (OpenSpec.upto exprUsesSpec)

/-- 'surmiselaw03.ExprValues', WHERE WHAT IT READS IS OF BULK AT MOST 1048576: true; the input reads as it did. -/
def exprValuesUptoRow : OpenClaim := { program := "ythhnecbfcpmpbaa", sum := "54f9e8adba43b294b874d3ced059ec5d50df9a8501c2fd3b094bc5f63d55c50a", func := "surmise/surmiselaw03.ExprValues", spec := "exprValues", unfollowed := true, recurses := true, apart := false, narrowed := true }
def ExprValuesUptoSaid : Prop := exprValuesUptoRow.holds Try.pinned (OpenSpec.upto exprValuesSpec)

end Rows
end Go.Proofs.Ythhnecbfcpmpbaa
