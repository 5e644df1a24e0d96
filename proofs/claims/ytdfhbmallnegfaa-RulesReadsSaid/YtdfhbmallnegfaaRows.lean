/-
  No cell of these rows narrows 'for every input' (looked for: loops, veiled, ifaces, maps, wideKeys, modest, calm, conditions, laid).
  DERIVED. THE GIVEN ROWS OF THIS SEAT. 6 by the template 'for every input the law returns true; each argument reads behind the call as it read before'; 0 by the template 'total and deterministic' (their statements: YtdfhbmallnegfaaTotals.lean).
  GIVEN WITH THE SEED: the statements are not yours to turn. If you find one false, say at which input.
  Laid BY PROGRAM, IN A SANDBOX (cutbox-rows.mjs): the forced cells as the released guide's own fill.sh prints them over the translation e284cc39883f3a9d… (all of the seat's roots in one cut). By AI agents, Wed Nov 11 2026. No macro, syntax, notation, axiom, sorry.
-/
import Derived.Test.YtdfhbmallnegfaaChecked
import GoSem.Claim
import GoSem.ClaimJoined
import GoSem.ClaimMapViews
import Derived.JoinedTies
import Derived.KernelRfl
namespace Go.Proofs.Ytdfhbmallnegfaa
/- THE CELL 'sum', in the pinned program and in every row, IS THE sha256 OF THE DUMP (.gsa) THAT YtdfhbmallnegfaaProg.lean LOADS. Nothing in Lean hashes anything: it is a label: what it is worth is what the hold of that sum in a sandbox is worth. -/
noncomputable def Try.pinned : Pinned := { name := "ytdfhbmallnegfaa", sum := "e284cc39883f3a9d27ecd7a5bbbb06a2c17affbcdbafb6aca9dcf966a02d2788", checked := Try.checked }
namespace Rows
def none {H : Type} : Left H := { results := [], args := [] }

/-- 'surmiselaw05.RulesCheck': WHATEVER THE INPUT: true; the input reads as it did. -/
def rulesCheckSpec : ChangeSpec := { name := "rulesCheck", fn := fun _ => fun
  | [d] => { results := [.lit (.bool true)], args := [d] }
  | _ => none }
def rulesCheckRow : OpenClaim := { program := "ytdfhbmallnegfaa", sum := "e284cc39883f3a9d27ecd7a5bbbb06a2c17affbcdbafb6aca9dcf966a02d2788", func := "surmise/surmiselaw05.RulesCheck", spec := "rulesCheck", unfollowed := true, recurses := true, apart := false }
def RulesCheckSaid : Prop := rulesCheckRow.holds Try.pinned (OpenSpec.ofChange rulesCheckSpec)

/-- ITS FALSE NEIGHBOUR: 'it returns false'. Refute it at one input. -/
def rulesCheckWrong : ChangeSpec := { name := "rulesCheck", fn := fun _ => fun
  | [d] => { results := [.lit (.bool false)], args := [d] }
  | _ => none }
def RulesCheckWrongFalsely : Prop := rulesCheckRow.holds Try.pinned (OpenSpec.ofChange rulesCheckWrong)

/-- 'surmiselaw05.RulesFor': WHATEVER THE INPUT: true; the input reads as it did. -/
def rulesForSpec : ChangeSpec := { name := "rulesFor", fn := fun _ => fun
  | [d] => { results := [.lit (.bool true)], args := [d] }
  | _ => none }
def rulesForRow : OpenClaim := { program := "ytdfhbmallnegfaa", sum := "e284cc39883f3a9d27ecd7a5bbbb06a2c17affbcdbafb6aca9dcf966a02d2788", func := "surmise/surmiselaw05.RulesFor", spec := "rulesFor", unfollowed := true, recurses := true, apart := false }
def RulesForSaid : Prop := rulesForRow.holds Try.pinned (OpenSpec.ofChange rulesForSpec)

/-- ITS FALSE NEIGHBOUR: 'it returns false'. Refute it at one input. -/
def rulesForWrong : ChangeSpec := { name := "rulesFor", fn := fun _ => fun
  | [d] => { results := [.lit (.bool false)], args := [d] }
  | _ => none }
def RulesForWrongFalsely : Prop := rulesForRow.holds Try.pinned (OpenSpec.ofChange rulesForWrong)

/-- 'surmiselaw05.RulesLess': WHATEVER THE INPUT: true; the input reads as it did. -/
def rulesLessSpec : ChangeSpec := { name := "rulesLess", fn := fun _ => fun
  | [d1, d2] => { results := [.lit (.bool true)], args := [d1, d2] }
  | _ => none }
def rulesLessRow : OpenClaim := { program := "ytdfhbmallnegfaa", sum := "e284cc39883f3a9d27ecd7a5bbbb06a2c17affbcdbafb6aca9dcf966a02d2788", func := "surmise/surmiselaw05.RulesLess", spec := "rulesLess", unfollowed := true, recurses := true, apart := false }
def RulesLessSaid : Prop := rulesLessRow.holds Try.pinned (OpenSpec.ofChange rulesLessSpec)

/-- ITS FALSE NEIGHBOUR: 'it returns false'. Refute it at one input. -/
def rulesLessWrong : ChangeSpec := { name := "rulesLess", fn := fun _ => fun
  | [d1, d2] => { results := [.lit (.bool false)], args := [d1, d2] }
  | _ => none }
def RulesLessWrongFalsely : Prop := rulesLessRow.holds Try.pinned (OpenSpec.ofChange rulesLessWrong)

/-- 'surmiselaw05.RulesReach': WHATEVER THE INPUT: true; the input reads as it did. -/
def rulesReachSpec : ChangeSpec := { name := "rulesReach", fn := fun _ => fun
  | [d] => { results := [.lit (.bool true)], args := [d] }
  | _ => none }
def rulesReachRow : OpenClaim := { program := "ytdfhbmallnegfaa", sum := "e284cc39883f3a9d27ecd7a5bbbb06a2c17affbcdbafb6aca9dcf966a02d2788", func := "surmise/surmiselaw05.RulesReach", spec := "rulesReach", unfollowed := true, recurses := true, apart := false }
def RulesReachSaid : Prop := rulesReachRow.holds Try.pinned (OpenSpec.ofChange rulesReachSpec)

/-- ITS FALSE NEIGHBOUR: 'it returns false'. Refute it at one input. -/
def rulesReachWrong : ChangeSpec := { name := "rulesReach", fn := fun _ => fun
  | [d] => { results := [.lit (.bool false)], args := [d] }
  | _ => none }
def RulesReachWrongFalsely : Prop := rulesReachRow.holds Try.pinned (OpenSpec.ofChange rulesReachWrong)

/-- 'surmiselaw05.RulesClosed': WHATEVER THE INPUT: true; the input reads as it did. -/
def rulesClosedSpec : ChangeSpec := { name := "rulesClosed", fn := fun _ => fun
  | [d] => { results := [.lit (.bool true)], args := [d] }
  | _ => none }
def rulesClosedRow : OpenClaim := { program := "ytdfhbmallnegfaa", sum := "e284cc39883f3a9d27ecd7a5bbbb06a2c17affbcdbafb6aca9dcf966a02d2788", func := "surmise/surmiselaw05.RulesClosed", spec := "rulesClosed", unfollowed := true, recurses := true, apart := false }
def RulesClosedSaid : Prop := rulesClosedRow.holds Try.pinned (OpenSpec.ofChange rulesClosedSpec)

/-- ITS FALSE NEIGHBOUR: 'it returns false'. Refute it at one input. -/
def rulesClosedWrong : ChangeSpec := { name := "rulesClosed", fn := fun _ => fun
  | [d] => { results := [.lit (.bool false)], args := [d] }
  | _ => none }
def RulesClosedWrongFalsely : Prop := rulesClosedRow.holds Try.pinned (OpenSpec.ofChange rulesClosedWrong)

/-- 'surmiselaw05.RulesReads': WHATEVER THE INPUT: true; the input reads as it did. -/
def rulesReadsSpec : ChangeSpec := { name := "rulesReads", fn := fun _ => fun
  | [d1, d2] => { results := [.lit (.bool true)], args := [d1, d2] }
  | _ => none }
def rulesReadsRow : OpenClaim := { program := "ytdfhbmallnegfaa", sum := "e284cc39883f3a9d27ecd7a5bbbb06a2c17affbcdbafb6aca9dcf966a02d2788", func := "surmise/surmiselaw05.RulesReads", spec := "rulesReads", unfollowed := true, recurses := true, apart := false }
def RulesReadsSaid : Prop := rulesReadsRow.holds Try.pinned (OpenSpec.ofChange rulesReadsSpec)

/-- ITS FALSE NEIGHBOUR: 'it returns false'. Refute it at one input. -/
def rulesReadsWrong : ChangeSpec := { name := "rulesReads", fn := fun _ => fun
  | [d1, d2] => { results := [.lit (.bool false)], args := [d1, d2] }
  | _ => none }
def RulesReadsWrongFalsely : Prop := rulesReadsRow.holds Try.pinned (OpenSpec.ofChange rulesReadsWrong)

/- THE SECOND FORM. 'bulk': how many values and letters a reading holds, each counted each time it is reached (what is shared counts as often as it is met; a slice's spare places count too). A statement '..UptoSaid' is the law's where the arguments, and the package variables that the reading takes, are together of bulk at most 1048576: NARROWER than '..Said'. Prove '..Said' where nothing that the law and all that it calls make is longer than what came in: it says more and counts as full. Else prove '..UptoSaid'. A law counts once. -/
mutual
def uptoBulk {H : Type} : DataW H → Nat
  | .lit (.string bytes) => bytes.length + 1
  | .lit _ => 1
  | .nil => 1
  | .ptr d => uptoBulk d + 1
  | .slice elems spare => uptoBulkAll elems + uptoBulkAll spare + 1
  | .agg parts => uptoBulkAll parts + 1
  | .iface _ d => uptoBulk d + 1
  | .map entries => uptoBulkEntries entries + 1
  | .held _ => 1
def uptoBulkAll {H : Type} : List (DataW H) → Nat
  | [] => 0
  | d :: r => uptoBulk d + uptoBulkAll r
def uptoBulkEntries {H : Type} : List (Lit × DataW H) → Nat
  | [] => 0
  | x :: r => uptoBulkEntry x + uptoBulkEntries r
def uptoBulkEntry {H : Type} : Lit × DataW H → Nat
  | (.string bytes, d) => bytes.length + uptoBulk d + 1
  | (_, d) => uptoBulk d + 1
 end
def uptoSmall : (H : Type) → List (DataW H) → Bool := fun _ ds => decide (uptoBulkAll ds ≤ 1048576)
def OpenSpec.upto (s : _root_.Go.ChangeSpec) : _root_.Go.OpenSpec := { _root_.Go.OpenSpec.ofChange s with cond := some uptoSmall }

/-- 'surmiselaw05.RulesCheck', WHERE WHAT IT READS IS OF BULK AT MOST 1048576: true; the input reads as it did. -/
def rulesCheckUptoRow : OpenClaim := { program := "ytdfhbmallnegfaa", sum := "e284cc39883f3a9d27ecd7a5bbbb06a2c17affbcdbafb6aca9dcf966a02d2788", func := "surmise/surmiselaw05.RulesCheck", spec := "rulesCheck", unfollowed := true, recurses := true, apart := false, narrowed := true }
def RulesCheckUptoSaid : Prop := rulesCheckUptoRow.holds Try.pinned (OpenSpec.upto rulesCheckSpec)

/-- 'surmiselaw05.RulesFor', WHERE WHAT IT READS IS OF BULK AT MOST 1048576: true; the input reads as it did. -/
def rulesForUptoRow : OpenClaim := { program := "ytdfhbmallnegfaa", sum := "e284cc39883f3a9d27ecd7a5bbbb06a2c17affbcdbafb6aca9dcf966a02d2788", func := "surmise/surmiselaw05.RulesFor", spec := "rulesFor", unfollowed := true, recurses := true, apart := false, narrowed := true }
def RulesForUptoSaid : Prop := rulesForUptoRow.holds Try.pinned (OpenSpec.upto rulesForSpec)

/-- 'surmiselaw05.RulesLess', WHERE WHAT IT READS IS OF BULK AT MOST 1048576: true; the input reads as it did. -/
def rulesLessUptoRow : OpenClaim := { program := "ytdfhbmallnegfaa", sum := "e284cc39883f3a9d27ecd7a5bbbb06a2c17affbcdbafb6aca9dcf966a02d2788", func := "surmise/surmiselaw05.RulesLess", spec := "rulesLess", unfollowed := true, recurses := true, apart := false, narrowed := true }
def RulesLessUptoSaid : Prop := rulesLessUptoRow.holds Try.pinned (OpenSpec.upto rulesLessSpec)

/-- 'surmiselaw05.RulesReach', WHERE WHAT IT READS IS OF BULK AT MOST 1048576: true; the input reads as it did. -/
def rulesReachUptoRow : OpenClaim := { program := "ytdfhbmallnegfaa", sum := "e284cc39883f3a9d27ecd7a5bbbb06a2c17affbcdbafb6aca9dcf966a02d2788", func := "surmise/surmiselaw05.RulesReach", spec := "rulesReach", unfollowed := true, recurses := true, apart := false, narrowed := true }
def RulesReachUptoSaid : Prop := rulesReachUptoRow.holds Try.pinned (OpenSpec.upto rulesReachSpec)

/-- 'surmiselaw05.RulesClosed', WHERE WHAT IT READS IS OF BULK AT MOST 1048576: true; the input reads as it did. -/
def rulesClosedUptoRow : OpenClaim := { program := "ytdfhbmallnegfaa", sum := "e284cc39883f3a9d27ecd7a5bbbb06a2c17affbcdbafb6aca9dcf966a02d2788", func := "surmise/surmiselaw05.RulesClosed", spec := "rulesClosed", unfollowed := true, recurses := true, apart := false, narrowed := true }
def RulesClosedUptoSaid : Prop := rulesClosedUptoRow.holds Try.pinned (OpenSpec.upto rulesClosedSpec)

/-- 'surmiselaw05.RulesReads', WHERE WHAT IT READS IS OF BULK AT MOST 1048576: true; the input reads as it did. -/
def rulesReadsUptoRow : OpenClaim := { program := "ytdfhbmallnegfaa", sum := "e284cc39883f3a9d27ecd7a5bbbb06a2c17affbcdbafb6aca9dcf966a02d2788", func := "surmise/surmiselaw05.RulesReads", spec := "rulesReads", unfollowed := true, recurses := true, apart := false, narrowed := true }
def RulesReadsUptoSaid : Prop := rulesReadsUptoRow.holds Try.pinned (OpenSpec.upto rulesReadsSpec)

end Rows
end Go.Proofs.Ytdfhbmallnegfaa
