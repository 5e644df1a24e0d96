/-
  What becomes of every command: the walk of the law, tables that may be.
-/
import Derived.Test.YthalmafpobmdoaaCyS
import Derived.Test.YthalmafpobmdoaaCyQ
namespace Go.Vi.CYthalmafpobmdoaa
open Go.Vi Go.Proofs Go.Proofs.Ythalmafpobmdoaa
set_option linter.unusedVariables false
set_option maxHeartbeats 8000000
set_option maxRecDepth 100000
set_option linter.unusedSimpArgs false

theorem r_DecideDecides (t : Tb) (s : Stt) (c : Cm) (ht : t.ok) (hs : s.ok) (hsf : Sl.fit s.vars) (hc : c.ok) (H : Hp) : Runs Try.prog pol 3 [.val (tbV t), .val (sttV s), .val (cmV c)] H ([.val (.bool true)], [], H) := by
  cases hR : rightB t
  · exact r_DecideDecides0 t s c ht hs hsf hc hR H
  have hsf0 := hsf
  unfold Sl.fit at hsf
  have hd := r_Decide t s c ht hs hc
  have hrd := r_RDecide t s c ht hs hc hR
  have hdo := decS_evs (c := c) ht hs
  have hev := r_Events (decS t s c).1 (decS t s c).1 hdo hdo
  rw [eventsS_self] at hev
  have hw : (⟨s.at', s.ver, some s.vars.list⟩ : Stt).ok := ⟨hs.1, hs.2.1, hs.2.2.1, hs.2.2.2⟩
  have hsm := r_Same ⟨s.at', s.ver, some s.vars.list⟩ s hw hs
  rw [show sameS ⟨s.at', s.ver, some s.vars.list⟩ s = true by simp [sameS, Sl.list]] at hsm
  refine Runs.told (fn := Try.f3) (n := 64) [(0, .val (tbV t)), (1, .val (sttV s)), (2, .val (cmV c))] [(0, .gone 0), (1, .gone 0), (2, .gone 0)] rfl Try.func3 rfl rfl (by kernel_rfl) rfl (by repeat' constructor) (by repeat' constructor) ?_
  repeat' (first
    | intro _
    | refine Ws ?_
    | (refine Wt ?_ ?_ <;> intro _ <;> try (exfalso; omega))
    | (refine Wu ?_ ?_ <;> intro _)
    | refine Wv ?_
    | refine Wz ?_
    | fail)
  refine Wo.appG (by8 := 8) (fun g2 hne => ?_) (fun hem => ?_) ⟨hsf, by omega⟩
  · refine Wo.buildSt ?_
    repeat' (first
      | intro _
      | refine Ws ?_
      | (refine Wt ?_ ?_ <;> intro _ <;> try (exfalso; omega))
      | (refine Wu ?_ ?_ <;> intro _)
      | refine Wo.call0 (hd) ?_
      | refine Wo.callB (r_lright _ ht) (fun _ => ?_) (fun _ => ?_)
      | refine Wo.call0 (r_awake) ?_
      | refine Wo.call0 (hrd) ?_
      | refine Wo.call0 (hev) ?_
      | refine Wo.callGV hsm ?_
      | refine Wv ?_
      | refine Wz ?_
      | fail)
    all_goals first
      | rfl
      | (exfalso; have h : rightB t = false := by assumption
         rw [hR] at h; cases h; done)
      | trace_state
  · rw [hem] at hsm
    refine Wo.buildFl ?_
    repeat' (first
      | intro _
      | refine Ws ?_
      | (refine Wt ?_ ?_ <;> intro _ <;> try (exfalso; omega))
      | (refine Wu ?_ ?_ <;> intro _)
      | refine Wo.call0 (hd) ?_
      | refine Wo.callB (r_lright _ ht) (fun _ => ?_) (fun _ => ?_)
      | refine Wo.call0 (r_awake) ?_
      | refine Wo.call0 (hrd) ?_
      | refine Wo.call0 (hev) ?_
      | refine Wo.call0 (hsm) ?_
      | refine Wv ?_
      | refine Wz ?_
      | fail)
    all_goals first
      | rfl
      | (exfalso; have h : rightB t = false := by assumption
         rw [hR] at h; cases h; done)
      | trace_state
end Go.Vi.CYthalmafpobmdoaa
