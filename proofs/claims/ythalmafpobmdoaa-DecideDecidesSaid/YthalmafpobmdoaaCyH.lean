/-
  States side by side.
-/
import Derived.Test.YthalmafpobmdoaaCyG
namespace Go.Vi.CYthalmafpobmdoaa
open Go.Vi Go.Proofs Go.Proofs.Ythalmafpobmdoaa
set_option linter.unusedVariables false
set_option maxHeartbeats 8000000
set_option maxRecDepth 100000
set_option linter.unusedSimpArgs false

def sameS (a b : Stt) : Bool := decide (a.at' = b.at') && decide (a.ver = b.ver) && decide (a.vars.list = b.vars.list)
theorem r_Same (a b : Stt) (ha : a.ok) (hb : b.ok) (H : Hp) : Runs Try.prog pol 13 [.val (sttV a), .val (sttV b)] H ([.val (.bool (sameS a b))], [], H) := by
  obtain ⟨_, _, ha1, _⟩ := ha
  obtain ⟨_, _, hb1, _⟩ := hb
  refine Runs.told (fn := Try.f13) (n := 24) [(0, .val (sttV a)), (1, .val (sttV b))] [(0, .gone 0), (1, .gone 0)] rfl Try.func13 rfl rfl (by kernel_rfl) rfl (by repeat' constructor) (by repeat' constructor) ?_
  repeat' (first
    | intro _
    | refine Ws ?_
    | (refine Wt ?_ ?_ <;> intro _ <;> try (exfalso; omega))
    | (refine Wu ?_ ?_ <;> intro _)
    | refine Wo.call0 (r_IntsD _ _ ha1 hb1) ?_
    | refine Wv ?_
    | refine Wz ?_
    | fail)
  all_goals first
    | (simp [sameS, *]; done)
    | trace_state
end Go.Vi.CYthalmafpobmdoaa
