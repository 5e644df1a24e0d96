/-
  FilterCovers.
-/
import Derived.Test.YtnloddhadlpajaaCpI
import Derived.Test.YtnloddhadlpajaaCpJ
namespace Go.Vi.CYtnloddhadlpajaa
open Go.Vi Go.Proofs Go.Proofs.Ytnloddhadlpajaa
set_option linter.unusedVariables false
set_option maxHeartbeats 4000000
set_option maxRecDepth 100000
set_option linter.unusedSimpArgs false

theorem r_FilterCovers (a b : Sl ByteArray) (ha : Sl.ok a) (hb : Sl.ok b) (H : Hp) (hH : H = Hp.bare 0) : Runs Try.prog pol 4 [.val (slV VV.str a), .val (slV VV.str b)] H ([.val (.bool true)], [], H) := by
  subst hH
  obtain ⟨a2, ha2, hfa⟩ := r_few a ha
  obtain ⟨b2, hb2, hfb⟩ := r_few b hb
  have ha3 : Sl.ok a2 := by unfold Sl.ok; omega
  have hb3 : Sl.ok b2 := by unfold Sl.ok; omega
  have h1 := r_FCovers a2 b2 ha3 hb3
  have h2 := r_RFCovers a2 b2 ha3 hb3
  have h3 := r_FMeet a2 b2 ha3 hb3
  have h4 := r_RFMeet a2 b2 ha3 hb3
  generalize coversF a2.list b2.list = c at h1 h2
  generalize meetFF a2.list b2.list = m at h3 h4
  cases c <;> cases m
  all_goals
    refine Runs.told (fn := Try.f4) (n := 28) [(0, .val (slV VV.str a)), (1, .val (slV VV.str b))] [(0, .gone 0), (1, .gone 0)] rfl Try.func4 rfl rfl (by kernel_rfl) rfl (by repeat' constructor) (by repeat' constructor) ?_
    repeat' (first
      | intro _
      | refine Ws ?_
      | (refine Wt ?_ ?_ <;> intro _ <;> try (exfalso; omega))
      | (refine Wu ?_ ?_ <;> intro _)
      | refine Wo.call0 (hfa) ?_
      | refine Wo.call0 (hfb) ?_
      | refine Wo.callAt r_awake ?_
      | refine Wo.call0 (h1) ?_
      | refine Wo.call0 (h2) ?_
      | refine Wo.call0 (h3) ?_
      | refine Wo.call0 (h4) ?_
      | refine Wv ?_
      | refine Wz ?_
      | fail)
    all_goals rfl
end Go.Vi.CYtnloddhadlpajaa
