/-
  What refuses a command: the program.
-/
import Derived.Test.YthalmafpobmdoaaCyM
namespace Go.Vi.CYthalmafpobmdoaa
open Go.Vi Go.Proofs Go.Proofs.Ythalmafpobmdoaa
set_option linter.unusedVariables false
set_option maxHeartbeats 8000000
set_option maxRecDepth 100000
set_option linter.unusedSimpArgs false

theorem r_refused1 (g : Gd) (s : Stt) (c : Cm) (hg : Sl.ok g.test) (hs : Sl.ok s.vars) (hc : Sl.ok c.args) (H : Hp) : Runs Try.prog pol 35 [.val (gdV g), .val (.elt [sttV s] 0 0), .val (.elt [cmV c] 0 0)] H ([.val (iv (gdS s.vars.list c.args.list g))], [], H) := by
  refine Runs.told (fn := Try.f35) (n := 25) [(0, .val (gdV g)), (1, .val (.elt [sttV s] 0 0)), (2, .val (.elt [cmV c] 0 0))] [(0, .gone 0), (1, .gone 0), (2, .gone 0)] rfl Try.func35 rfl rfl (by kernel_rfl) rfl (by repeat' constructor) (by repeat' constructor) ?_
  repeat' (first
    | intro _
    | refine Ws ?_
    | (refine Wt ?_ ?_ <;> intro _ <;> try (exfalso; omega))
    | (refine Wu ?_ ?_ <;> intro _)
    | refine Wo.call0 (r_Eval _ _ _ hg hs hc) ?_
    | refine Wv ?_
    | refine Wz ?_
    | fail)
  all_goals first
    | (simp [gdS, *]; done)
    | trace_state
theorem r_refused (t : Tb) (s : Stt) (c : Cm) (ht : t.ok) (hs : s.ok) (hc : c.ok) (H : Hp) : Runs Try.prog pol 23 [.val (tbV t), .val (sttV s), .val (cmV c)] H ([.val (iv (refS t s c))], [], H) := by
  have hs' := hs.2.2.1
  have hc' := hc.2.2.2.2.1.1
  by_cases hb : 0 ≤ c.rule ∧ c.rule < t.rules.list.length
  · obtain ⟨r, hr⟩ := at_some (show c.rule.toNat < t.rules.list.length by omega)
    have hrg := (ht.2.2.2.2 r (List.mem_of_getElem? hr)).2.2.2.1
    have hrg1 := hrg.1
    unfold Sl.ok at hrg1
    have hR : refS t s c = if mayS t s = false then 3 else if (c.args.list.length : Int) ≠ r.args ∨ valuesOk c.args.list = false then 2 else if for' t c.rule s.at' = false then 3 else if 0 ≤ c.exp ∧ c.exp ≠ s.ver then 4 else gdsS s.vars.list c.args.list r.guards.list := by
      unfold refS; rw [if_pos hb.1, hr]
    rw [hR]
    refine Runs.told (fn := Try.f23) (n := 80) [(0, .val (tbV t)), (1, .val (sttV s)), (2, .val (cmV c))] [(0, .gone 0), (1, .gone 0), (2, .gone 0)] rfl Try.func23 rfl rfl (by kernel_rfl) rfl (by repeat' constructor) (by repeat' constructor) ?_
    repeat' (first
      | intro _
      | refine Ws ?_
      | (refine Wt ?_ ?_ <;> intro _ <;> try (exfalso; omega))
      | (refine Wu ?_ ?_ <;> intro _)
      | refine Wo.callB (r_may _ _ ht hs) (fun _ => ?_) (fun _ => ?_)
      | refine Wo.callB (r_dvalues _ hc') (fun _ => ?_) (fun _ => ?_)
      | refine Wo.callB (r_For t _ _ ht) (fun _ => ?_) (fun _ => ?_)
      | refine Wo.clos2 ?_
      | refine Wv ?_
      | refine Wz ?_
      | fail)
    all_goals first
      | (simp [*]; done)
      | skip
    all_goals
      refine Wx.loop [8, 67, 68] [0, 1, 2, 3, 4, 5, 7, 14, 43, 52] (fun k => [(69, .val (iv (k : Nat)))]) (fun k => []) (fun k => k ≤ r.guards.list.length ∧ ∀ j, j < k → gdHit s.vars.list c.args.list r.guards.list j = none) (fun k => r.guards.list.length - k) 0 ⟨Nat.zero_le _, fun _ h => by omega⟩ (fun k x y hG => ?_)
      obtain ⟨h1, h2⟩ := hG
      dsimp only [List.cons_append, List.nil_append]
      rcases Nat.lt_or_ge k r.guards.list.length with hk | hk
      · obtain ⟨z, hz⟩ := at_some hk
        have hzt := (hrg.2 z (List.mem_of_getElem? hz)).2.1
        repeat' (first
          | intro _
          | refine Ws ?_
          | (refine Wt ?_ ?_ <;> intro _ <;> try (exfalso; omega))
          | (refine Wu ?_ ?_ <;> intro _)
          | refine Wo.call0 (r_refused1 _ _ _ hzt hs' hc') ?_
          | refine Wv ?_
          | refine Wz ?_
          | fail)
        · exact Rd (k + 1) (by omega) ⟨by omega, none_succ h2 (by simp only [gdHit, hz]; rw [if_pos (by assumption)])⟩
        · have hsc := scan_found (p := gdHit s.vars.list c.args.list r.guards.list) (b := gdS s.vars.list c.args.list z) h2 (by simp only [gdHit, hz]; rw [if_neg (by assumption)]) (n := r.guards.list.length) (by omega)
          simp [gdsS, *]
      · repeat' (first
          | intro _
          | refine Ws ?_
          | (refine Wt ?_ ?_ <;> intro _ <;> try (exfalso; omega))
          | (refine Wu ?_ ?_ <;> intro _)
          | refine Wv ?_
          | refine Wz ?_
          | fail)
        have hsc := scan_none (p := gdHit s.vars.list c.args.list r.guards.list) (n := r.guards.list.length) (fun j hj => h2 j (by omega))
        simp [gdsS, *]
  · have hR : refS t s c = if mayS t s = false then 3 else 1 := by
      unfold refS
      by_cases h0 : 0 ≤ c.rule
      · rw [if_pos h0, List.getElem?_eq_none (by omega)]
      · rw [if_neg h0]
    rw [hR]
    refine Runs.told (fn := Try.f23) (n := 80) [(0, .val (tbV t)), (1, .val (sttV s)), (2, .val (cmV c))] [(0, .gone 0), (1, .gone 0), (2, .gone 0)] rfl Try.func23 rfl rfl (by kernel_rfl) rfl (by repeat' constructor) (by repeat' constructor) ?_
    repeat' (first
      | intro _
      | refine Ws ?_
      | (refine Wt ?_ ?_ <;> intro _ <;> try (exfalso; omega))
      | (refine Wu ?_ ?_ <;> intro _)
      | refine Wo.callB (r_may _ _ ht hs) (fun _ => ?_) (fun _ => ?_)
      | refine Wv ?_
      | refine Wz ?_
      | fail)
    all_goals first
      | (simp [*]; done)
      | trace_state
end Go.Vi.CYthalmafpobmdoaa
