/-
  No cell of these rows narrows 'for every input' (looked for: loops, veiled, ifaces, maps, wideKeys, modest, calm, conditions, laid).
  DERIVED. THE GIVEN ROWS OF THIS SEAT. 5 by the template 'for every input the law returns true; each argument reads behind the call as it read before'; 0 by the template 'total and deterministic' (their statements: YthalmafpobmdoaaTotals.lean).
  GIVEN WITH THE SEED: the statements are not yours to turn. If you find one false, say at which input.
  Laid BY PROGRAM, IN A SANDBOX (cutbox-rows.mjs): the forced cells as the released guide's own fill.sh prints them over the translation 3b3fbc709ba6a2f5… (all of the seat's roots in one cut). By AI agents, Wed Nov 11 2026. No macro, syntax, notation, axiom, sorry.
-/
import Derived.Test.YthalmafpobmdoaaChecked
import GoSem.Claim
import GoSem.ClaimJoined
import GoSem.ClaimMapViews
import Derived.JoinedTies
import Derived.KernelRfl
namespace Go.Proofs.Ythalmafpobmdoaa
/- THE CELL 'sum', in the pinned program and in every row, IS THE sha256 OF THE DUMP (.gsa) THAT YthalmafpobmdoaaProg.lean LOADS. Nothing in Lean hashes anything: it is a label: what it is worth is what the hold of that sum in a sandbox is worth. -/
noncomputable def Try.pinned : Pinned := { name := "ythalmafpobmdoaa", sum := "3b3fbc709ba6a2f55739a255f007c443d7ead48d34899ecac6c38f1d70502d1a", checked := Try.checked }
namespace Rows
def none {H : Type} : Left H := { results := [], args := [] }

/-- 'surmiselaw07.DecideDecides': WHATEVER THE INPUT: true; the input reads as it did. -/
def decideDecidesSpec : ChangeSpec := { name := "decideDecides", fn := fun _ => fun
  | [d1, d2, d3] => { results := [.lit (.bool true)], args := [d1, d2, d3] }
  | _ => none }
def decideDecidesRow : OpenClaim := { program := "ythalmafpobmdoaa", sum := "3b3fbc709ba6a2f55739a255f007c443d7ead48d34899ecac6c38f1d70502d1a", func := "surmise/surmiselaw07.DecideDecides", spec := "decideDecides", unfollowed := true, recurses := true, apart := false }
def DecideDecidesSaid : Prop := decideDecidesRow.holds Try.pinned (OpenSpec.ofChange decideDecidesSpec)

/-- ITS FALSE NEIGHBOUR: 'it returns false'. Refute it at one input. -/
def decideDecidesWrong : ChangeSpec := { name := "decideDecides", fn := fun _ => fun
  | [d1, d2, d3] => { results := [.lit (.bool false)], args := [d1, d2, d3] }
  | _ => none }
def DecideDecidesWrongFalsely : Prop := decideDecidesRow.holds Try.pinned (OpenSpec.ofChange decideDecidesWrong)

/-- 'surmiselaw07.DecideBegins': WHATEVER THE INPUT: true; the input reads as it did. -/
def decideBeginsSpec : ChangeSpec := { name := "decideBegins", fn := fun _ => fun
  | [d1, d2] => { results := [.lit (.bool true)], args := [d1, d2] }
  | _ => none }
def decideBeginsRow : OpenClaim := { program := "ythalmafpobmdoaa", sum := "3b3fbc709ba6a2f55739a255f007c443d7ead48d34899ecac6c38f1d70502d1a", func := "surmise/surmiselaw07.DecideBegins", spec := "decideBegins", unfollowed := true, recurses := true, apart := false }
def DecideBeginsSaid : Prop := decideBeginsRow.holds Try.pinned (OpenSpec.ofChange decideBeginsSpec)

/-- ITS FALSE NEIGHBOUR: 'it returns false'. Refute it at one input. -/
def decideBeginsWrong : ChangeSpec := { name := "decideBegins", fn := fun _ => fun
  | [d1, d2] => { results := [.lit (.bool false)], args := [d1, d2] }
  | _ => none }
def DecideBeginsWrongFalsely : Prop := decideBeginsRow.holds Try.pinned (OpenSpec.ofChange decideBeginsWrong)

/-- 'surmiselaw07.DecideFolds': WHATEVER THE INPUT: true; the input reads as it did. -/
def decideFoldsSpec : ChangeSpec := { name := "decideFolds", fn := fun _ => fun
  | [d1, d2, d3] => { results := [.lit (.bool true)], args := [d1, d2, d3] }
  | _ => none }
def decideFoldsRow : OpenClaim := { program := "ythalmafpobmdoaa", sum := "3b3fbc709ba6a2f55739a255f007c443d7ead48d34899ecac6c38f1d70502d1a", func := "surmise/surmiselaw07.DecideFolds", spec := "decideFolds", unfollowed := true, recurses := true, apart := false }
def DecideFoldsSaid : Prop := decideFoldsRow.holds Try.pinned (OpenSpec.ofChange decideFoldsSpec)

/-- ITS FALSE NEIGHBOUR: 'it returns false'. Refute it at one input. -/
def decideFoldsWrong : ChangeSpec := { name := "decideFolds", fn := fun _ => fun
  | [d1, d2, d3] => { results := [.lit (.bool false)], args := [d1, d2, d3] }
  | _ => none }
def DecideFoldsWrongFalsely : Prop := decideFoldsRow.holds Try.pinned (OpenSpec.ofChange decideFoldsWrong)

/-- 'surmiselaw07.DecideRight': WHATEVER THE INPUT: true; the input reads as it did. -/
def decideRightSpec : ChangeSpec := { name := "decideRight", fn := fun _ => fun
  | [d1, d2] => { results := [.lit (.bool true)], args := [d1, d2] }
  | _ => none }
def decideRightRow : OpenClaim := { program := "ythalmafpobmdoaa", sum := "3b3fbc709ba6a2f55739a255f007c443d7ead48d34899ecac6c38f1d70502d1a", func := "surmise/surmiselaw07.DecideRight", spec := "decideRight", unfollowed := true, recurses := true, apart := false }
def DecideRightSaid : Prop := decideRightRow.holds Try.pinned (OpenSpec.ofChange decideRightSpec)

/-- ITS FALSE NEIGHBOUR: 'it returns false'. Refute it at one input. -/
def decideRightWrong : ChangeSpec := { name := "decideRight", fn := fun _ => fun
  | [d1, d2] => { results := [.lit (.bool false)], args := [d1, d2] }
  | _ => none }
def DecideRightWrongFalsely : Prop := decideRightRow.holds Try.pinned (OpenSpec.ofChange decideRightWrong)

/-- 'surmiselaw07.DecideAlone': WHATEVER THE INPUT: true; the input reads as it did. -/
def decideAloneSpec : ChangeSpec := { name := "decideAlone", fn := fun _ => fun
  | [d] => { results := [.lit (.bool true)], args := [d] }
  | _ => none }
def decideAloneRow : OpenClaim := { program := "ythalmafpobmdoaa", sum := "3b3fbc709ba6a2f55739a255f007c443d7ead48d34899ecac6c38f1d70502d1a", func := "surmise/surmiselaw07.DecideAlone", spec := "decideAlone", unfollowed := true, recurses := true, apart := false }
def DecideAloneSaid : Prop := decideAloneRow.holds Try.pinned (OpenSpec.ofChange decideAloneSpec)

/-- ITS FALSE NEIGHBOUR: 'it returns false'. Refute it at one input. -/
def decideAloneWrong : ChangeSpec := { name := "decideAlone", fn := fun _ => fun
  | [d] => { results := [.lit (.bool false)], args := [d] }
  | _ => none }
def DecideAloneWrongFalsely : Prop := decideAloneRow.holds Try.pinned (OpenSpec.ofChange decideAloneWrong)

/- THE SECOND FORM. 'bulk': how many values and letters a reading holds, each counted each time it is reached (what is shared counts as often as it is met; a slice's spare places count too). A statement '..UptoSaid' is the law's where the arguments, and the package variables that the reading takes, are together of bulk at most 1048576: NARROWER than '..Said'. Prove '..Said' where nothing that the law and all that it calls make is longer than what came in: it says more and counts as full. Else prove '..UptoSaid'. A law counts once. -/
mutual
def uptoBulk {H : Type} : DataW H → Nat
  | .lit (.string bytes) => bytes.length + 1
  | .lit _ => 1
  | .nil => 1
  | .ptr d => uptoBulk d + 1
  | .slice elems spare => uptoBulkAll elems + uptoBulkAll spare + 1
  | .agg parts => uptoBulkAll parts + 1
  | .iface _ d => uptoBulk d + 1
  | .map entries => uptoBulkEntries entries + 1
  | .held _ => 1
def uptoBulkAll {H : Type} : List (DataW H) → Nat
  | [] => 0
  | d :: r => uptoBulk d + uptoBulkAll r
def uptoBulkEntries {H : Type} : List (Lit × DataW H) → Nat
  | [] => 0
  | x :: r => uptoBulkEntry x + uptoBulkEntries r
def uptoBulkEntry {H : Type} : Lit × DataW H → Nat
  | (.string bytes, d) => bytes.length + uptoBulk d + 1
  | (_, d) => uptoBulk d + 1
 end
def uptoSmall : (H : Type) → List (DataW H) → Bool := fun _ ds => decide (uptoBulkAll ds ≤ 1048576)
def OpenSpec.upto (s : _root_.Go.ChangeSpec) : _root_.Go.OpenSpec := { _root_.Go.OpenSpec.ofChange s with cond := some uptoSmall }

/-- 'surmiselaw07.DecideDecides', WHERE WHAT IT READS IS OF BULK AT MOST 1048576: true; the input reads as it did. -/
def decideDecidesUptoRow : OpenClaim := { program := "ythalmafpobmdoaa", sum := "3b3fbc709ba6a2f55739a255f007c443d7ead48d34899ecac6c38f1d70502d1a", func := "surmise/surmiselaw07.DecideDecides", spec := "decideDecides", unfollowed := true, recurses := true, apart := false, narrowed := true }
def DecideDecidesUptoSaid : Prop := decideDecidesUptoRow.holds Try.pinned (OpenSpec.upto decideDecidesSpec)

/-- 'surmiselaw07.DecideBegins', WHERE WHAT IT READS IS OF BULK AT MOST 1048576: true; the input reads as it did. -/
def decideBeginsUptoRow : OpenClaim := { program := "ythalmafpobmdoaa", sum := "3b3fbc709ba6a2f55739a255f007c443d7ead48d34899ecac6c38f1d70502d1a", func := "surmise/surmiselaw07.DecideBegins", spec := "decideBegins", unfollowed := true, recurses := true, apart := false, narrowed := true }
def DecideBeginsUptoSaid : Prop := decideBeginsUptoRow.holds Try.pinned (OpenSpec.upto decideBeginsSpec)

/-- 'surmiselaw07.DecideFolds', WHERE WHAT IT READS IS OF BULK AT MOST 1048576: true; the input reads as it did. -/
def decideFoldsUptoRow : OpenClaim := { program := "ythalmafpobmdoaa", sum := "3b3fbc709ba6a2f55739a255f007c443d7ead48d34899ecac6c38f1d70502d1a", func := "surmise/surmiselaw07.DecideFolds", spec := "decideFolds", unfollowed := true, recurses := true, apart := false, narrowed := true }
def DecideFoldsUptoSaid : Prop := decideFoldsUptoRow.holds Try.pinned (OpenSpec.upto decideFoldsSpec)

/-- 'surmiselaw07.DecideRight', WHERE WHAT IT READS IS OF BULK AT MOST 1048576: true; the input reads as it did. -/
def decideRightUptoRow : OpenClaim := { program := "ythalmafpobmdoaa", sum := "3b3fbc709ba6a2f55739a255f007c443d7ead48d34899ecac6c38f1d70502d1a", func := "surmise/surmiselaw07.DecideRight", spec := "decideRight", unfollowed := true, recurses := true, apart := false, narrowed := true }
def DecideRightUptoSaid : Prop := decideRightUptoRow.holds Try.pinned (OpenSpec.upto decideRightSpec)

/-- 'surmiselaw07.DecideAlone', WHERE WHAT IT READS IS OF BULK AT MOST 1048576: true; the input reads as it did. -/
def decideAloneUptoRow : OpenClaim := { program := "ythalmafpobmdoaa", sum := "3b3fbc709ba6a2f55739a255f007c443d7ead48d34899ecac6c38f1d70502d1a", func := "surmise/surmiselaw07.DecideAlone", spec := "decideAlone", unfollowed := true, recurses := true, apart := false, narrowed := true }
def DecideAloneUptoSaid : Prop := decideAloneUptoRow.holds Try.pinned (OpenSpec.upto decideAloneSpec)

end Rows
end Go.Proofs.Ythalmafpobmdoaa
