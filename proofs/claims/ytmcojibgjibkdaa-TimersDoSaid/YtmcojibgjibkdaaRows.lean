/-
  No cell of these rows narrows 'for every input' (looked for: loops, veiled, ifaces, maps, wideKeys, modest, calm, conditions, laid).
  DERIVED. THE GIVEN ROWS OF THIS SEAT. 5 by the template 'for every input the law returns true; each argument reads behind the call as it read before'; 0 by the template 'total and deterministic' (their statements: YtmcojibgjibkdaaTotals.lean).
  GIVEN WITH THE SEED: the statements are not yours to turn. If you find one false, say at which input.
  Laid BY PROGRAM, IN A SANDBOX (cutbox-rows.mjs): the forced cells as the released guide's own fill.sh prints them over the translation 78730f5cbea7190c… (all of the seat's roots in one cut). By AI agents, Wed Nov 11 2026. No macro, syntax, notation, axiom, sorry.
-/
import Derived.Test.YtmcojibgjibkdaaChecked
import GoSem.Claim
import GoSem.ClaimJoined
import GoSem.ClaimMapViews
import Derived.JoinedTies
import Derived.KernelRfl
namespace Go.Proofs.Ytmcojibgjibkdaa
/- THE CELL 'sum', in the pinned program and in every row, IS THE sha256 OF THE DUMP (.gsa) THAT YtmcojibgjibkdaaProg.lean LOADS. Nothing in Lean hashes anything: it is a label: what it is worth is what the hold of that sum in a sandbox is worth. -/
noncomputable def Try.pinned : Pinned := { name := "ytmcojibgjibkdaa", sum := "78730f5cbea7190c29b3568cc354157084ab8126fe70331345013302d01be007", checked := Try.checked }
namespace Rows
def none {H : Type} : Left H := { results := [], args := [] }

/-- 'surmiselaw21.TimersOnce': WHATEVER THE INPUT: true; the input reads as it did. -/
def timersOnceSpec : ChangeSpec := { name := "timersOnce", fn := fun _ => fun
  | [d1, d2] => { results := [.lit (.bool true)], args := [d1, d2] }
  | _ => none }
def timersOnceRow : OpenClaim := { program := "ytmcojibgjibkdaa", sum := "78730f5cbea7190c29b3568cc354157084ab8126fe70331345013302d01be007", func := "surmise/surmiselaw21.TimersOnce", spec := "timersOnce", unfollowed := true, recurses := true, apart := false }
def TimersOnceSaid : Prop := timersOnceRow.holds Try.pinned (OpenSpec.ofChange timersOnceSpec)

/-- ITS FALSE NEIGHBOUR: 'it returns false'. Refute it at one input. -/
def timersOnceWrong : ChangeSpec := { name := "timersOnce", fn := fun _ => fun
  | [d1, d2] => { results := [.lit (.bool false)], args := [d1, d2] }
  | _ => none }
def TimersOnceWrongFalsely : Prop := timersOnceRow.holds Try.pinned (OpenSpec.ofChange timersOnceWrong)

/-- 'surmiselaw21.TimersApart': WHATEVER THE INPUT: true; the input reads as it did. -/
def timersApartSpec : ChangeSpec := { name := "timersApart", fn := fun _ => fun
  | [d1, d2, d3] => { results := [.lit (.bool true)], args := [d1, d2, d3] }
  | _ => none }
def timersApartRow : OpenClaim := { program := "ytmcojibgjibkdaa", sum := "78730f5cbea7190c29b3568cc354157084ab8126fe70331345013302d01be007", func := "surmise/surmiselaw21.TimersApart", spec := "timersApart", unfollowed := true, recurses := true, apart := false }
def TimersApartSaid : Prop := timersApartRow.holds Try.pinned (OpenSpec.ofChange timersApartSpec)

/-- ITS FALSE NEIGHBOUR: 'it returns false'. Refute it at one input. -/
def timersApartWrong : ChangeSpec := { name := "timersApart", fn := fun _ => fun
  | [d1, d2, d3] => { results := [.lit (.bool false)], args := [d1, d2, d3] }
  | _ => none }
def TimersApartWrongFalsely : Prop := timersApartRow.holds Try.pinned (OpenSpec.ofChange timersApartWrong)

/-- 'surmiselaw21.TimersParts': WHATEVER THE INPUT: true; the input reads as it did. -/
def timersPartsSpec : ChangeSpec := { name := "timersParts", fn := fun _ => fun
  | [d1, d2, d3] => { results := [.lit (.bool true)], args := [d1, d2, d3] }
  | _ => none }
def timersPartsRow : OpenClaim := { program := "ytmcojibgjibkdaa", sum := "78730f5cbea7190c29b3568cc354157084ab8126fe70331345013302d01be007", func := "surmise/surmiselaw21.TimersParts", spec := "timersParts", unfollowed := true, recurses := true, apart := false }
def TimersPartsSaid : Prop := timersPartsRow.holds Try.pinned (OpenSpec.ofChange timersPartsSpec)

/-- ITS FALSE NEIGHBOUR: 'it returns false'. Refute it at one input. -/
def timersPartsWrong : ChangeSpec := { name := "timersParts", fn := fun _ => fun
  | [d1, d2, d3] => { results := [.lit (.bool false)], args := [d1, d2, d3] }
  | _ => none }
def TimersPartsWrongFalsely : Prop := timersPartsRow.holds Try.pinned (OpenSpec.ofChange timersPartsWrong)

/-- 'surmiselaw21.TimersDo': WHATEVER THE INPUT: true; the input reads as it did. -/
def timersDoSpec : ChangeSpec := { name := "timersDo", fn := fun _ => fun
  | [d1, d2] => { results := [.lit (.bool true)], args := [d1, d2] }
  | _ => none }
def timersDoRow : OpenClaim := { program := "ytmcojibgjibkdaa", sum := "78730f5cbea7190c29b3568cc354157084ab8126fe70331345013302d01be007", func := "surmise/surmiselaw21.TimersDo", spec := "timersDo", unfollowed := true, recurses := true, apart := false }
def TimersDoSaid : Prop := timersDoRow.holds Try.pinned (OpenSpec.ofChange timersDoSpec)

/-- ITS FALSE NEIGHBOUR: 'it returns false'. Refute it at one input. -/
def timersDoWrong : ChangeSpec := { name := "timersDo", fn := fun _ => fun
  | [d1, d2] => { results := [.lit (.bool false)], args := [d1, d2] }
  | _ => none }
def TimersDoWrongFalsely : Prop := timersDoRow.holds Try.pinned (OpenSpec.ofChange timersDoWrong)

/-- 'surmiselaw21.TimersNone': WHATEVER THE INPUT: true; the input reads as it did. -/
def timersNoneSpec : ChangeSpec := { name := "timersNone", fn := fun _ => fun
  | [d] => { results := [.lit (.bool true)], args := [d] }
  | _ => none }
def timersNoneRow : OpenClaim := { program := "ytmcojibgjibkdaa", sum := "78730f5cbea7190c29b3568cc354157084ab8126fe70331345013302d01be007", func := "surmise/surmiselaw21.TimersNone", spec := "timersNone", unfollowed := true, recurses := true, apart := false }
def TimersNoneSaid : Prop := timersNoneRow.holds Try.pinned (OpenSpec.ofChange timersNoneSpec)

/-- ITS FALSE NEIGHBOUR: 'it returns false'. Refute it at one input. -/
def timersNoneWrong : ChangeSpec := { name := "timersNone", fn := fun _ => fun
  | [d] => { results := [.lit (.bool false)], args := [d] }
  | _ => none }
def TimersNoneWrongFalsely : Prop := timersNoneRow.holds Try.pinned (OpenSpec.ofChange timersNoneWrong)

/- THE SECOND FORM. 'bulk': how many values and letters a reading holds, each counted each time it is reached (what is shared counts as often as it is met; a slice's spare places count too). A statement '..UptoSaid' is the law's where the arguments, and the package variables that the reading takes, are together of bulk at most 1048576: NARROWER than '..Said'. Prove '..Said' where nothing that the law and all that it calls make is longer than what came in: it says more and counts as full. Else prove '..UptoSaid'. A law counts once. -/
mutual
def uptoBulk {H : Type} : DataW H → Nat
  | .lit (.string bytes) => bytes.length + 1
  | .lit _ => 1
  | .nil => 1
  | .ptr d => uptoBulk d + 1
  | .slice elems spare => uptoBulkAll elems + uptoBulkAll spare + 1
  | .agg parts => uptoBulkAll parts + 1
  | .iface _ d => uptoBulk d + 1
  | .map entries => uptoBulkEntries entries + 1
  | .held _ => 1
def uptoBulkAll {H : Type} : List (DataW H) → Nat
  | [] => 0
  | d :: r => uptoBulk d + uptoBulkAll r
def uptoBulkEntries {H : Type} : List (Lit × DataW H) → Nat
  | [] => 0
  | x :: r => uptoBulkEntry x + uptoBulkEntries r
def uptoBulkEntry {H : Type} : Lit × DataW H → Nat
  | (.string bytes, d) => bytes.length + uptoBulk d + 1
  | (_, d) => uptoBulk d + 1
 end
def uptoSmall : (H : Type) → List (DataW H) → Bool := fun _ ds => decide (uptoBulkAll ds ≤ 1048576)
def OpenSpec.upto (s : _root_.Go.ChangeSpec) : _root_.Go.OpenSpec := { _root_.Go.OpenSpec.ofChange s with cond := some uptoSmall }

/-- 'surmiselaw21.TimersOnce', WHERE WHAT IT READS IS OF BULK AT MOST 1048576: true; the input reads as it did. -/
def timersOnceUptoRow : OpenClaim := { program := "ytmcojibgjibkdaa", sum := "78730f5cbea7190c29b3568cc354157084ab8126fe70331345013302d01be007", func := "surmise/surmiselaw21.TimersOnce", spec := "timersOnce", unfollowed := true, recurses := true, apart := false, narrowed := true }
def TimersOnceUptoSaid : Prop := timersOnceUptoRow.holds Try.pinned (OpenSpec.upto timersOnceSpec)

/-- 'surmiselaw21.TimersApart', WHERE WHAT IT READS IS OF BULK AT MOST 1048576: true; the input reads as it did. -/
def timersApartUptoRow : OpenClaim := { program := "ytmcojibgjibkdaa", sum := "78730f5cbea7190c29b3568cc354157084ab8126fe70331345013302d01be007", func := "surmise/surmiselaw21.TimersApart", spec := "timersApart", unfollowed := true, recurses := true, apart := false, narrowed := true }
def TimersApartUptoSaid : Prop := timersApartUptoRow.holds Try.pinned (OpenSpec.upto timersApartSpec)

/-- 'surmiselaw21.TimersParts', WHERE WHAT IT READS IS OF BULK AT MOST 1048576: true; the input reads as it did. -/
def timersPartsUptoRow : OpenClaim := { program := "ytmcojibgjibkdaa", sum := "78730f5cbea7190c29b3568cc354157084ab8126fe70331345013302d01be007", func := "surmise/surmiselaw21.TimersParts", spec := "timersParts", unfollowed := true, recurses := true, apart := false, narrowed := true }
def TimersPartsUptoSaid : Prop := timersPartsUptoRow.holds Try.pinned (OpenSpec.upto timersPartsSpec)

/-- 'surmiselaw21.TimersDo', WHERE WHAT IT READS IS OF BULK AT MOST 1048576: true; the input reads as it did. -/
def timersDoUptoRow : OpenClaim := { program := "ytmcojibgjibkdaa", sum := "78730f5cbea7190c29b3568cc354157084ab8126fe70331345013302d01be007", func := "surmise/surmiselaw21.TimersDo", spec := "timersDo", unfollowed := true, recurses := true, apart := false, narrowed := true }
def TimersDoUptoSaid : Prop := timersDoUptoRow.holds Try.pinned (OpenSpec.upto timersDoSpec)

/-- 'surmiselaw21.TimersNone', WHERE WHAT IT READS IS OF BULK AT MOST 1048576: true; the input reads as it did. -/
def timersNoneUptoRow : OpenClaim := { program := "ytmcojibgjibkdaa", sum := "78730f5cbea7190c29b3568cc354157084ab8126fe70331345013302d01be007", func := "surmise/surmiselaw21.TimersNone", spec := "timersNone", unfollowed := true, recurses := true, apart := false, narrowed := true }
def TimersNoneUptoSaid : Prop := timersNoneUptoRow.holds Try.pinned (OpenSpec.upto timersNoneSpec)

end Rows
end Go.Proofs.Ytmcojibgjibkdaa
