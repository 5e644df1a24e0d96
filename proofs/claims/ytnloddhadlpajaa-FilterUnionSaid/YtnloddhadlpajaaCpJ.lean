/-
  What must come at any rate: tried by computing.
-/
import Derived.Test.YtnloddhadlpajaaCpA
namespace Go.Vi.CYtnloddhadlpajaa
open Go.Vi Go.Proofs Go.Proofs.Ytnloddhadlpajaa
set_option linter.unusedVariables false
set_option maxHeartbeats 4000000
set_option maxRecDepth 100000
set_option linter.unusedSimpArgs false

theorem r_awake : Runs Try.prog pol 10 [] (Hp.bare 0) ([.val (.bool true)], [], Hp.bare 0) := ⟨100, by kernel_rfl⟩
end Go.Vi.CYtnloddhadlpajaa
