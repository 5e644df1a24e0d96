/-
  New states, the reference's way.
-/
import Derived.Test.YthalmafpobmdoaaCyF
namespace Go.Vi.CYthalmafpobmdoaa
open Go.Vi Go.Proofs Go.Proofs.Ythalmafpobmdoaa
set_option linter.unusedVariables false
set_option maxHeartbeats 8000000
set_option maxRecDepth 100000
set_option linter.unusedSimpArgs false

def startS (t : Tb) : Stt := ⟨0, 0, some t.start.list⟩
theorem newS_right {t : Tb} (h : rightB t = true) : newS t = startS t := by rw [newS, if_pos h]; rfl
theorem r_RNew (t : Tb) (ht : t.ok) (hsl : t.start.list.length ≤ 1073741824) (H : Hp) : Runs Try.prog pol 16 [.val (tbV t)] H ([.val (sttV (startS t))], [], H) := by
  refine Runs.told (fn := Try.f16) (n := 8) [(0, .val (tbV t))] [(0, .gone 0)] rfl Try.func16 rfl rfl (by kernel_rfl) rfl (by repeat' constructor) (by repeat' constructor) ?_
  repeat' (first
    | intro _
    | refine Ws ?_
    | (refine Wt ?_ ?_ <;> intro _ <;> try (exfalso; omega))
    | (refine Wu ?_ ?_ <;> intro _)
    | refine Wv ?_
    | refine Wz ?_
    | fail)
  refine Wo.appF (fun g2 _ hne => ?_) (fun hem => ?_) (hnew := fun _ => rfl)
  · refine Wo.buildSt ?_
    repeat' (first
      | intro _
      | refine Ws ?_
      | (refine Wt ?_ ?_ <;> intro _ <;> try (exfalso; omega))
      | (refine Wu ?_ ?_ <;> intro _)
      | refine Wv ?_
      | refine Wz ?_
      | fail)
    exact Wl.retF rfl
  · refine Wo.buildFl ?_
    repeat' (first
      | intro _
      | refine Ws ?_
      | (refine Wt ?_ ?_ <;> intro _ <;> try (exfalso; omega))
      | (refine Wu ?_ ?_ <;> intro _)
      | refine Wv ?_
      | refine Wz ?_
      | fail)
    unfold startS; rw [hem]; rfl
end Go.Vi.CYthalmafpobmdoaa
