/-
  No cell of these rows narrows 'for every input' (looked for: loops, veiled, ifaces, maps, wideKeys, modest, calm, conditions, laid).
  DERIVED. THE GIVEN ROWS OF THIS SEAT. 5 by the template 'for every input the law returns true; each argument reads behind the call as it read before'; 0 by the template 'total and deterministic' (their statements: YtnloddhadlpajaaTotals.lean).
  GIVEN WITH THE SEED: the statements are not yours to turn. If you find one false, say at which input.
  Laid BY PROGRAM, IN A SANDBOX (cutbox-rows.mjs): the forced cells as the released guide's own fill.sh prints them over the translation ae3895eb052476b8… (all of the seat's roots in one cut). By AI agents, Wed Nov 11 2026. No macro, syntax, notation, axiom, sorry.
-/
import Derived.Test.YtnloddhadlpajaaChecked
import GoSem.Claim
import GoSem.ClaimJoined
import GoSem.ClaimMapViews
import Derived.JoinedTies
import Derived.KernelRfl
namespace Go.Proofs.Ytnloddhadlpajaa
/- THE CELL 'sum', in the pinned program and in every row, IS THE sha256 OF THE DUMP (.gsa) THAT YtnloddhadlpajaaProg.lean LOADS. Nothing in Lean hashes anything: it is a label: what it is worth is what the hold of that sum in a sandbox is worth. -/
noncomputable def Try.pinned : Pinned := { name := "ytnloddhadlpajaa", sum := "ae3895eb052476b8078bebdb6e04483ef3c9acf5f1e0bdb6f4edc6280945cb34", checked := Try.checked }
namespace Rows
def none {H : Type} : Left H := { results := [], args := [] }

/-- 'surmiselaw09.FilterChecks': WHATEVER THE INPUT: true; the input reads as it did. -/
def filterChecksSpec : ChangeSpec := { name := "filterChecks", fn := fun _ => fun
  | [d1, d2] => { results := [.lit (.bool true)], args := [d1, d2] }
  | _ => none }
def filterChecksRow : OpenClaim := { program := "ytnloddhadlpajaa", sum := "ae3895eb052476b8078bebdb6e04483ef3c9acf5f1e0bdb6f4edc6280945cb34", func := "surmise/surmiselaw09.FilterChecks", spec := "filterChecks", unfollowed := true, recurses := true, apart := false }
def FilterChecksSaid : Prop := filterChecksRow.holds Try.pinned (OpenSpec.ofChange filterChecksSpec)

/-- ITS FALSE NEIGHBOUR: 'it returns false'. Refute it at one input. -/
def filterChecksWrong : ChangeSpec := { name := "filterChecks", fn := fun _ => fun
  | [d1, d2] => { results := [.lit (.bool false)], args := [d1, d2] }
  | _ => none }
def FilterChecksWrongFalsely : Prop := filterChecksRow.holds Try.pinned (OpenSpec.ofChange filterChecksWrong)

/-- 'surmiselaw09.FilterCovers': WHATEVER THE INPUT: true; the input reads as it did. -/
def filterCoversSpec : ChangeSpec := { name := "filterCovers", fn := fun _ => fun
  | [d1, d2] => { results := [.lit (.bool true)], args := [d1, d2] }
  | _ => none }
def filterCoversRow : OpenClaim := { program := "ytnloddhadlpajaa", sum := "ae3895eb052476b8078bebdb6e04483ef3c9acf5f1e0bdb6f4edc6280945cb34", func := "surmise/surmiselaw09.FilterCovers", spec := "filterCovers", unfollowed := true, recurses := true, apart := false }
def FilterCoversSaid : Prop := filterCoversRow.holds Try.pinned (OpenSpec.ofChange filterCoversSpec)

/-- ITS FALSE NEIGHBOUR: 'it returns false'. Refute it at one input. -/
def filterCoversWrong : ChangeSpec := { name := "filterCovers", fn := fun _ => fun
  | [d1, d2] => { results := [.lit (.bool false)], args := [d1, d2] }
  | _ => none }
def FilterCoversWrongFalsely : Prop := filterCoversRow.holds Try.pinned (OpenSpec.ofChange filterCoversWrong)

/-- 'surmiselaw09.FilterNormal': WHATEVER THE INPUT: true; the input reads as it did. -/
def filterNormalSpec : ChangeSpec := { name := "filterNormal", fn := fun _ => fun
  | [d1, d2, d3] => { results := [.lit (.bool true)], args := [d1, d2, d3] }
  | _ => none }
def filterNormalRow : OpenClaim := { program := "ytnloddhadlpajaa", sum := "ae3895eb052476b8078bebdb6e04483ef3c9acf5f1e0bdb6f4edc6280945cb34", func := "surmise/surmiselaw09.FilterNormal", spec := "filterNormal", unfollowed := true, recurses := true, apart := false }
def FilterNormalSaid : Prop := filterNormalRow.holds Try.pinned (OpenSpec.ofChange filterNormalSpec)

/-- ITS FALSE NEIGHBOUR: 'it returns false'. Refute it at one input. -/
def filterNormalWrong : ChangeSpec := { name := "filterNormal", fn := fun _ => fun
  | [d1, d2, d3] => { results := [.lit (.bool false)], args := [d1, d2, d3] }
  | _ => none }
def FilterNormalWrongFalsely : Prop := filterNormalRow.holds Try.pinned (OpenSpec.ofChange filterNormalWrong)

/-- 'surmiselaw09.FilterUnion': WHATEVER THE INPUT: true; the input reads as it did. -/
def filterUnionSpec : ChangeSpec := { name := "filterUnion", fn := fun _ => fun
  | [d] => { results := [.lit (.bool true)], args := [d] }
  | _ => none }
def filterUnionRow : OpenClaim := { program := "ytnloddhadlpajaa", sum := "ae3895eb052476b8078bebdb6e04483ef3c9acf5f1e0bdb6f4edc6280945cb34", func := "surmise/surmiselaw09.FilterUnion", spec := "filterUnion", unfollowed := true, recurses := true, apart := false }
def FilterUnionSaid : Prop := filterUnionRow.holds Try.pinned (OpenSpec.ofChange filterUnionSpec)

/-- ITS FALSE NEIGHBOUR: 'it returns false'. Refute it at one input. -/
def filterUnionWrong : ChangeSpec := { name := "filterUnion", fn := fun _ => fun
  | [d] => { results := [.lit (.bool false)], args := [d] }
  | _ => none }
def FilterUnionWrongFalsely : Prop := filterUnionRow.holds Try.pinned (OpenSpec.ofChange filterUnionWrong)

/-- 'surmiselaw09.FilterSound': WHATEVER THE INPUT: true; the input reads as it did. -/
def filterSoundSpec : ChangeSpec := { name := "filterSound", fn := fun _ => fun
  | [d1, d2, d3] => { results := [.lit (.bool true)], args := [d1, d2, d3] }
  | _ => none }
def filterSoundRow : OpenClaim := { program := "ytnloddhadlpajaa", sum := "ae3895eb052476b8078bebdb6e04483ef3c9acf5f1e0bdb6f4edc6280945cb34", func := "surmise/surmiselaw09.FilterSound", spec := "filterSound", unfollowed := true, recurses := true, apart := false }
def FilterSoundSaid : Prop := filterSoundRow.holds Try.pinned (OpenSpec.ofChange filterSoundSpec)

/-- ITS FALSE NEIGHBOUR: 'it returns false'. Refute it at one input. -/
def filterSoundWrong : ChangeSpec := { name := "filterSound", fn := fun _ => fun
  | [d1, d2, d3] => { results := [.lit (.bool false)], args := [d1, d2, d3] }
  | _ => none }
def FilterSoundWrongFalsely : Prop := filterSoundRow.holds Try.pinned (OpenSpec.ofChange filterSoundWrong)

/- THE SECOND FORM. 'bulk': how many values and letters a reading holds, each counted each time it is reached (what is shared counts as often as it is met; a slice's spare places count too). A statement '..UptoSaid' is the law's where the arguments, and the package variables that the reading takes, are together of bulk at most 1048576: NARROWER than '..Said'. Prove '..Said' where nothing that the law and all that it calls make is longer than what came in: it says more and counts as full. Else prove '..UptoSaid'. A law counts once. -/
mutual
def uptoBulk {H : Type} : DataW H → Nat
  | .lit (.string bytes) => bytes.length + 1
  | .lit _ => 1
  | .nil => 1
  | .ptr d => uptoBulk d + 1
  | .slice elems spare => uptoBulkAll elems + uptoBulkAll spare + 1
  | .agg parts => uptoBulkAll parts + 1
  | .iface _ d => uptoBulk d + 1
  | .map entries => uptoBulkEntries entries + 1
  | .held _ => 1
def uptoBulkAll {H : Type} : List (DataW H) → Nat
  | [] => 0
  | d :: r => uptoBulk d + uptoBulkAll r
def uptoBulkEntries {H : Type} : List (Lit × DataW H) → Nat
  | [] => 0
  | x :: r => uptoBulkEntry x + uptoBulkEntries r
def uptoBulkEntry {H : Type} : Lit × DataW H → Nat
  | (.string bytes, d) => bytes.length + uptoBulk d + 1
  | (_, d) => uptoBulk d + 1
 end
def uptoSmall : (H : Type) → List (DataW H) → Bool := fun _ ds => decide (uptoBulkAll ds ≤ 1048576)
def OpenSpec.upto (s : _root_.Go.ChangeSpec) : _root_.Go.OpenSpec := { _root_.Go.OpenSpec.ofChange s with cond := some uptoSmall }

/-- 'surmiselaw09.FilterChecks', WHERE WHAT IT READS IS OF BULK AT MOST 1048576: true; the input reads as it did. -/
def filterChecksUptoRow : OpenClaim := { program := "ytnloddhadlpajaa", sum := "ae3895eb052476b8078bebdb6e04483ef3c9acf5f1e0bdb6f4edc6280945cb34", func := "surmise/surmiselaw09.FilterChecks", spec := "filterChecks", unfollowed := true, recurses := true, apart := false, narrowed := true }
def FilterChecksUptoSaid : Prop := filterChecksUptoRow.holds Try.pinned (OpenSpec.upto filterChecksSpec)

/-- 'surmiselaw09.FilterCovers', WHERE WHAT IT READS IS OF BULK AT MOST 1048576: true; the input reads as it did. -/
def filterCoversUptoRow : OpenClaim := { program := "ytnloddhadlpajaa", sum := "ae3895eb052476b8078bebdb6e04483ef3c9acf5f1e0bdb6f4edc6280945cb34", func := "surmise/surmiselaw09.FilterCovers", spec := "filterCovers", unfollowed := true, recurses := true, apart := false, narrowed := true }
def FilterCoversUptoSaid : Prop := filterCoversUptoRow.holds Try.pinned (OpenSpec.upto filterCoversSpec)

/-- 'surmiselaw09.FilterNormal', WHERE WHAT IT READS IS OF BULK AT MOST 1048576: true; the input reads as it did. -/
def filterNormalUptoRow : OpenClaim := { program := "ytnloddhadlpajaa", sum := "ae3895eb052476b8078bebdb6e04483ef3c9acf5f1e0bdb6f4edc6280945cb34", func := "surmise/surmiselaw09.FilterNormal", spec := "filterNormal", unfollowed := true, recurses := true, apart := false, narrowed := true }
def FilterNormalUptoSaid : Prop := filterNormalUptoRow.holds Try.pinned (OpenSpec.upto filterNormalSpec)

/-- 'surmiselaw09.FilterUnion', WHERE WHAT IT READS IS OF BULK AT MOST 1048576: true; the input reads as it did. -/
def filterUnionUptoRow : OpenClaim := { program := "ytnloddhadlpajaa", sum := "ae3895eb052476b8078bebdb6e04483ef3c9acf5f1e0bdb6f4edc6280945cb34", func := "surmise/surmiselaw09.FilterUnion", spec := "filterUnion", unfollowed := true, recurses := true, apart := false, narrowed := true }
def FilterUnionUptoSaid : Prop := filterUnionUptoRow.holds Try.pinned (OpenSpec.upto filterUnionSpec)

/-- 'surmiselaw09.FilterSound', WHERE WHAT IT READS IS OF BULK AT MOST 1048576: true; the input reads as it did. -/
def filterSoundUptoRow : OpenClaim := { program := "ytnloddhadlpajaa", sum := "ae3895eb052476b8078bebdb6e04483ef3c9acf5f1e0bdb6f4edc6280945cb34", func := "surmise/surmiselaw09.FilterSound", spec := "filterSound", unfollowed := true, recurses := true, apart := false, narrowed := true }
def FilterSoundUptoSaid : Prop := filterSoundUptoRow.holds Try.pinned (OpenSpec.upto filterSoundSpec)

end Rows
end Go.Proofs.Ytnloddhadlpajaa
