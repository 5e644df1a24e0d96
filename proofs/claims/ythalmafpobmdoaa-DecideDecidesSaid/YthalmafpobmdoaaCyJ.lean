/-
  Whether a state may stand under a table, the reference's way.
-/
import Derived.Test.YthalmafpobmdoaaCyI
namespace Go.Vi.CYthalmafpobmdoaa
open Go.Vi Go.Proofs Go.Proofs.Ythalmafpobmdoaa
set_option linter.unusedVariables false
set_option maxHeartbeats 8000000
set_option maxRecDepth 100000
set_option linter.unusedSimpArgs false

theorem r_R7Right (t : Tb) (s : Stt) (ht : t.ok) (hs : s.ok) (H : Hp) : Runs Try.prog pol 17 [.val (tbV t), .val (sttV s)] H ([.val (.bool (mayS t s))], [], H) := by
  have hs' := hs
  obtain ⟨_, _, hs1, _⟩ := hs'
  refine Runs.told (fn := Try.f17) (n := 40) [(0, .val (tbV t)), (1, .val (sttV s))] [(0, .gone 0), (1, .gone 0)] rfl Try.func17 rfl rfl (by kernel_rfl) rfl (by repeat' constructor) (by repeat' constructor) ?_
  repeat' (first
    | intro _
    | refine Ws ?_
    | (refine Wt ?_ ?_ <;> intro _ <;> try (exfalso; omega))
    | (refine Wu ?_ ?_ <;> intro _)
    | refine Wo.call0 (r_all7 _ hs1) ?_
    | refine Wv ?_
    | refine Wz ?_
    | fail)
  all_goals first
    | (simp [mayS, *]; done)
    | (simp [mayS]; omega)
    | trace_state
end Go.Vi.CYthalmafpobmdoaa
