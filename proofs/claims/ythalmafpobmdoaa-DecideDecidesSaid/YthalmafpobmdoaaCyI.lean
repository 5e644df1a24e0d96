/-
  Whether a state may stand under a table.
-/
import Derived.Test.YthalmafpobmdoaaCyH
namespace Go.Vi.CYthalmafpobmdoaa
open Go.Vi Go.Proofs Go.Proofs.Ythalmafpobmdoaa
set_option linter.unusedVariables false
set_option maxHeartbeats 8000000
set_option maxRecDepth 100000
set_option linter.unusedSimpArgs false

def mayS (t : Tb) (s : Stt) : Bool := decide (0 ≤ s.at') && decide (s.at' < t.states.list.length) && decide (0 ≤ s.ver) && decide (s.ver ≤ 1099511627776) && decide (s.vars.list.length = t.vars.list.length) && valuesOk s.vars.list
theorem r_may (t : Tb) (s : Stt) (ht : t.ok) (hs : s.ok) (H : Hp) : Runs Try.prog pol 31 [.val (tbV t), .val (sttV s)] H ([.val (.bool (mayS t s))], [], H) := by
  obtain ⟨_, _, hs1, _⟩ := hs
  refine Runs.told (fn := Try.f31) (n := 40) [(0, .val (tbV t)), (1, .val (sttV s))] [(0, .gone 0), (1, .gone 0)] rfl Try.func31 rfl rfl (by kernel_rfl) rfl (by repeat' constructor) (by repeat' constructor) ?_
  repeat' (first
    | intro _
    | refine Ws ?_
    | (refine Wt ?_ ?_ <;> intro _ <;> try (exfalso; omega))
    | (refine Wu ?_ ?_ <;> intro _)
    | refine Wo.call0 (r_dvalues _ hs1) ?_
    | refine Wv ?_
    | refine Wz ?_
    | fail)
  all_goals first
    | (simp [mayS, *]; done)
    | (simp [mayS]; omega)
    | trace_state
theorem r_Right (t : Tb) (s : Stt) (ht : t.ok) (hs : s.ok) (H : Hp) : Runs Try.prog pol 15 [.val (tbV t), .val (sttV s)] H ([.val (.bool (rightB t && mayS t s))], [], H) := by
  refine Runs.told (fn := Try.f15) (n := 12) [(0, .val (tbV t)), (1, .val (sttV s))] [(0, .gone 0), (1, .gone 0)] rfl Try.func15 rfl rfl (by kernel_rfl) rfl (by repeat' constructor) (by repeat' constructor) ?_
  repeat' (first
    | intro _
    | refine Ws ?_
    | (refine Wt ?_ ?_ <;> intro _ <;> try (exfalso; omega))
    | (refine Wu ?_ ?_ <;> intro _)
    | refine Wo.callB (r_dright _ ht) (fun _ => ?_) (fun _ => ?_)
    | refine Wo.call0 (r_may _ _ ht hs) ?_
    | refine Wv ?_
    | refine Wz ?_
    | fail)
  all_goals first
    | (simp [*]; done)
    | trace_state
end Go.Vi.CYthalmafpobmdoaa
