/-
  New states.
-/
import Derived.Test.YthalmafpobmdoaaCyE
import Derived.Test.YthalmafpobmdoaaV4
namespace Go.Vi.CYthalmafpobmdoaa
open Go.Vi Go.Proofs Go.Proofs.Ythalmafpobmdoaa
set_option linter.unusedVariables false
set_option maxHeartbeats 8000000
set_option maxRecDepth 100000
set_option linter.unusedSimpArgs false

theorem rightB_eq {t : Tb} : rightB t = right' t := rfl
/-- a new state -/
def newS (t : Tb) : Stt := if rightB t = true then ⟨0, 0, some t.start.list⟩ else ⟨0, 0, none⟩
theorem r_New (t : Tb) (ht : t.ok) (hsl : rightB t = true → t.start.list.length ≤ 1073741824) (H : Hp) : Runs Try.prog pol 14 [.val (tbV t)] H ([.val (sttV (newS t))], [], H) := by
  by_cases hr : rightB t = true
  · have hsl := hsl hr
    have e : newS t = ⟨0, 0, some t.start.list⟩ := by rw [newS, if_pos hr]
    rw [e]
    refine Runs.told (fn := Try.f14) (n := 12) [(0, .val (tbV t))] [(0, .gone 0)] rfl Try.func14 rfl rfl (by kernel_rfl) rfl (by repeat' constructor) (by repeat' constructor) ?_
    repeat' (first
      | intro _
      | refine Ws ?_
      | (refine Wt ?_ ?_ <;> intro _ <;> try (exfalso; omega))
      | (refine Wu ?_ ?_ <;> intro _)
      | refine Wo.callB (r_dright _ ht) (fun _ => ?_) (fun _ => ?_)
      | refine Wv ?_
      | refine Wz ?_
      | fail)
    all_goals first
      | (exfalso; simp_all; done)
      | skip
    refine Wo.appF (fun g2 _ hne => ?_) (fun hem => ?_) (hnew := fun _ => rfl)
    · refine Wo.buildSt ?_
      repeat' (first
        | intro _
        | refine Ws ?_
        | (refine Wt ?_ ?_ <;> intro _ <;> try (exfalso; omega))
        | (refine Wu ?_ ?_ <;> intro _)
        | refine Wv ?_
        | refine Wz ?_
        | fail)
      exact Wl.retF rfl
    · refine Wo.buildFl ?_
      repeat' (first
        | intro _
        | refine Ws ?_
        | (refine Wt ?_ ?_ <;> intro _ <;> try (exfalso; omega))
        | (refine Wu ?_ ?_ <;> intro _)
        | refine Wv ?_
        | refine Wz ?_
        | fail)
      rw [hem]; rfl
  · have e : newS t = ⟨0, 0, none⟩ := by rw [newS, if_neg hr]
    rw [e]
    refine Runs.told (fn := Try.f14) (n := 12) [(0, .val (tbV t))] [(0, .gone 0)] rfl Try.func14 rfl rfl (by kernel_rfl) rfl (by repeat' constructor) (by repeat' constructor) ?_
    repeat' (first
      | intro _
      | refine Ws ?_
      | (refine Wt ?_ ?_ <;> intro _ <;> try (exfalso; omega))
      | (refine Wu ?_ ?_ <;> intro _)
      | refine Wo.callB (r_dright _ ht) (fun _ => ?_) (fun _ => ?_)
      | refine Wv ?_
      | refine Wz ?_
      | fail)
    all_goals first
      | (exfalso; simp_all; done)
      | rfl
      | trace_state
end Go.Vi.CYthalmafpobmdoaa
