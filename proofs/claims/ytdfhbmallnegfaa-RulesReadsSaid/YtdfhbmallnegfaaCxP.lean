/-
  The reference: rules, tables, for which states rules are, where they lead.
-/
import Derived.Test.YtdfhbmallnegfaaCxO
import Derived.Test.YtdfhbmallnegfaaCxJ
namespace Go.Vi.CYtdfhbmallnegfaa
open Go.Vi Go.Proofs Go.Proofs.Ytdfhbmallnegfaa
set_option linter.unusedVariables false
set_option maxHeartbeats 8000000
set_option maxRecDepth 100000
set_option linter.unusedSimpArgs false

/-- what is wrong with a rule's lists -/
def ruleL (t : Tb) (n : Int) (r : Rl) : Flt :=
  if (from' r.fr.list t.states.list.length).2 ≠ 0 then ⟨(from' r.fr.list t.states.list.length).2, n, 7, (from' r.fr.list t.states.list.length).1⟩ else
  if (guards' r.guards.list t.vars.list.length r.args).2 ≠ 0 then ⟨(guards' r.guards.list t.vars.list.length r.args).2, n, 8, (guards' r.guards.list t.vars.list.length r.args).1⟩ else
  if (steps' r.steps.list t.states.list.length t.vars.list.length r.args).2 ≠ 0 then ⟨(steps' r.steps.list t.states.list.length t.vars.list.length r.args).2, n, 9, (steps' r.steps.list t.states.list.length t.vars.list.length r.args).1⟩ else ⟨0, 0, 0, 0⟩
theorem ruleL_e {t : Tb} {n : Int} {r : Rl} (h : (ruleL t n r).e = 0) : ruleL t n r = ⟨0, 0, 0, 0⟩ := by
  unfold ruleL at h ⊢
  split at h
  · rename_i a; exact absurd h a
  · split at h
    · rename_i a; exact absurd h a
    · split at h
      · rename_i a; exact absurd h a
      · rename_i a b c; rw [if_neg a, if_neg b, if_neg c]

theorem r_Rrule (t : Tb) (n : Nat) (r : Rl) (hr : t.rules.list[n]? = some r) (ht : t.ok) (H : Hp) : Runs Try.prog pol 33 [.val (tbV t), .val (iv n)] H ([.val (fltV (ruleL t n r))], [], H) := by
  have hok : r.ok := ht.2.2.2.2 r (List.mem_of_getElem? hr)
  have hfo := hok.2.2.1.1
  have hgo := hok.2.2.2.1.1
  have hso := hok.2.2.2.2.1
  unfold Sl.ok at hfo hgo hso
  refine Runs.told (fn := Try.f33) (n := 126) [(0, .val (tbV t)), (1, .val (iv n))] [(0, .gone 0), (1, .gone 0)] rfl Try.func33 rfl rfl (by kernel_rfl) rfl (by repeat' constructor) (by repeat' constructor) ?_
  repeat' (first
    | intro _
    | refine Ws ?_
    | (refine Wt ?_ ?_ <;> intro _ <;> try (exfalso; omega))
    | (refine Wu ?_ ?_ <;> intro _)
    | refine Wv ?_
    | refine Wz ?_
    | fail)
  rename_i g2 g4 g5
  refine Wx.loop [1, 2, 4, 5, 8, 9, 10, 11, 63, 64, 65, 66, 67, 68, 69, 70, 71, 72, 73, 74, 75, 76, 77, 78, 79, 80, 81, 82, 83, 84, 85, 86, 87, 88, 89, 90, 91, 92, 93, 94, 95, 96, 97, 98, 99, 100, 101, 102, 103, 104, 105, 106, 107, 108, 109, 110, 111, 112, 113, 114, 115, 116, 117, 118, 119, 120, 121, 122, 123, 124, 125] [0, 1, 2, 4, 5, 84, 118] (fun k => [(6, .val (iv (k : Nat)))]) (fun k => []) (fun k => k ≤ r.fr.list.length ∧ ∀ j, j < k → fromBad r.fr.list t.states.list.length j = none) (fun k => r.fr.list.length - k) 0 ⟨Nat.zero_le _, fun _ h => by omega⟩ (fun k x y hG => ?_)
  obtain ⟨h1, h2⟩ := hG
  dsimp only [List.cons_append, List.nil_append]
  rcases Nat.lt_or_ge k r.fr.list.length with hk | hk
  · obtain ⟨z, hz⟩ := at_some hk
    repeat' (first
      | intro _
      | refine Ws ?_
      | (refine Wt ?_ ?_ <;> intro _ <;> try (exfalso; omega))
      | (refine Wu ?_ ?_ <;> intro _)
      | refine Wv ?_
      | refine Wz ?_
      | fail)
    all_goals first
      | (have hb := scan_found (p := fromBad r.fr.list t.states.list.length) (b := 3) h2 (by simp only [fromBad, hz]; rw [if_pos (by omega)]) (n := r.fr.list.length) (by omega)
         simp [ruleL, from', first0, hb]; done)
      | skip
    rename_i hv1 hv2
    have hv : ¬ (z < 0 ∨ (t.states.list.length : Int) ≤ z) := by omega
    refine Wx.loop [1, 2, 4, 5, 6, 8, 9, 10, 11, 17, 18, 19, 20, 21, 22, 23, 24, 25, 26, 27, 28, 29, 30, 31, 32, 33, 34, 35, 36, 37, 38, 39, 40, 41, 42, 43, 63, 64, 65, 66, 67, 68, 69, 70, 71, 72, 73, 74, 75, 76, 77, 78, 79, 80, 81, 82, 83, 84, 85, 86, 87, 88, 89, 90, 91, 92, 93, 94, 95, 96, 97, 98, 99, 100, 101, 102, 103, 104, 105, 106, 107, 108, 109, 110, 111, 112, 113, 114, 115, 116, 117, 118, 119, 120, 121, 122, 123, 124, 125] [0, 1, 2, 4, 5, 84, 118] (fun m => [(7, .val (iv (m : Nat)))]) (fun m => []) (fun m => m ≤ k ∧ ∀ j, j < m → ∀ o, r.fr.list[j]? = some o → decide (o = z) = false) (fun m => k - m) 0 ⟨Nat.zero_le _, fun _ h => by omega⟩ (fun m x y hG => ?_)
    obtain ⟨h3, h4⟩ := hG
    dsimp only [List.cons_append, List.nil_append]
    rcases Nat.lt_or_ge m k with hmk | hmk
    · obtain ⟨o, ho⟩ := at_some (show m < r.fr.list.length by omega)
      repeat' (first
        | intro _
        | refine Ws ?_
        | (refine Wt ?_ ?_ <;> intro _ <;> try (exfalso; omega))
        | (refine Wu ?_ ?_ <;> intro _)
        | refine Wv ?_
        | refine Wz ?_
        | fail)
      · have hb := scan_found (p := fromBad r.fr.list t.states.list.length) (b := 9) h2 (by simp only [fromBad, hz]; rw [if_neg hv, if_pos (any_took hmk ho (decide_eq_true (by assumption)))]) (n := r.fr.list.length) (by omega)
        simp [ruleL, from', first0, hb]
      · refine Rd (m + 1) (by omega) ⟨by omega, fun j hj o' ho' => ?_⟩
        rcases Nat.lt_succ_iff_lt_or_eq.1 hj with h | rfl
        · exact h4 j h o' ho'
        · rw [ho] at ho'; cases ho'; exact decide_eq_false (by assumption)
    · have hmm : m = k := by omega
      subst hmm
      repeat' (first
        | intro _
        | refine Ws ?_
        | (refine Wt ?_ ?_ <;> intro _ <;> try (exfalso; omega))
        | (refine Wu ?_ ?_ <;> intro _)
        | refine Wv ?_
        | refine Wz ?_
        | fail)
      exact Rd (m + 1) (by omega) ⟨by omega, none_succ h2 (by simp only [fromBad, hz]; rw [if_neg hv, if_neg (by rw [any_take h4]; simp)])⟩
  · have hb := scan_none (p := fromBad r.fr.list t.states.list.length) (n := r.fr.list.length) (fun j hj => h2 j (by omega))
    have hF : (from' r.fr.list t.states.list.length).2 = 0 := by simp [from', first0, hb]
    repeat' (first
      | intro _
      | refine Ws ?_
      | (refine Wt ?_ ?_ <;> intro _ <;> try (exfalso; omega))
      | (refine Wu ?_ ?_ <;> intro _)
      | refine Wv ?_
      | refine Wz ?_
      | fail)
    · simp [ruleL, hF, guards', *]
    rename_i hg4
    have hg4' : ¬ (4 : Int) < r.guards.list.length := by omega
    refine Wx.loop [1, 2, 4, 5, 10, 11, 91, 92, 93, 94, 95, 96, 97, 98, 99, 100, 101, 102, 103, 104, 105, 106, 107, 108, 109, 110, 111, 112, 113, 114, 115, 116, 117, 118, 119, 120, 121, 122, 123, 124, 125] [0, 1, 2, 4, 5, 118] (fun i => [(8, .val (iv (i : Nat)))]) (fun i => []) (fun i => i ≤ r.guards.list.length ∧ ∀ j, j < i → gdBad r.guards.list t.vars.list.length r.args j = none) (fun i => r.guards.list.length - i) 0 ⟨Nat.zero_le _, fun _ h => by omega⟩ (fun i x y hG => ?_)
    obtain ⟨q1, q2⟩ := hG
    dsimp only [List.cons_append, List.nil_append]
    rcases Nat.lt_or_ge i r.guards.list.length with hi | hi
    · obtain ⟨z, hz⟩ := at_some hi
      have hzo := hok.2.2.2.1.2 z (List.mem_of_getElem? hz)
      repeat' (first
        | intro _
        | refine Ws ?_
        | (refine Wt ?_ ?_ <;> intro _ <;> try (exfalso; omega))
        | (refine Wu ?_ ?_ <;> intro _)
        | refine Wo.call0 (r_Rguard z t _ hzo) ?_
        | refine Wv ?_
        | refine Wz ?_
        | fail)
      · exact Rd (i + 1) (by omega) ⟨by omega, none_succ q2 (by rw [gdBad_eq hz, if_pos (by assumption)])⟩
      · have hb2 := scan_found (p := gdBad r.guards.list t.vars.list.length r.args) (b := gdE z t.vars.list.length r.args) q2 (by rw [gdBad_eq hz, if_neg (by assumption)]) (n := r.guards.list.length) (by omega)
        have hne : ¬ gdE z t.vars.list.length r.args = 0 := by assumption
        simp [ruleL, hF, guards', hg4', first0, hb2, hne]
    · have hb2 := scan_none (p := gdBad r.guards.list t.vars.list.length r.args) (n := r.guards.list.length) (fun j hj => q2 j (by omega))
      have hG : (guards' r.guards.list t.vars.list.length r.args).2 = 0 := by simp [guards', hg4', first0, hb2]
      repeat' (first
        | intro _
        | refine Ws ?_
        | (refine Wt ?_ ?_ <;> intro _ <;> try (exfalso; omega))
        | (refine Wu ?_ ?_ <;> intro _)
        | refine Wv ?_
        | refine Wz ?_
        | fail)
      · simp only [ruleL, hF, hG, ne_eq, not_true_eq_false, if_false]
        have : steps' r.steps.list t.states.list.length t.vars.list.length r.args = (0, 2) := by unfold steps'; rw [if_pos (by omega)]
        rw [this]; rfl
      · simp only [ruleL, hF, hG, ne_eq, not_true_eq_false, if_false]
        have : steps' r.steps.list t.states.list.length t.vars.list.length r.args = (0, 4) := by unfold steps'; rw [if_neg (by omega), if_pos (by omega)]
        rw [this]; rfl
      rename_i hs0 hs3
      have hs0' : ¬ r.steps.list.length = 0 := by omega
      have hs3' : ¬ (3 : Int) < r.steps.list.length := by omega
      refine Wx.loop [1, 2, 4, 5, 125] [0, 1, 2, 4, 5, 84] (fun l => [(10, .val (iv (l : Nat)))]) (fun l => []) (fun l => l ≤ r.steps.list.length ∧ ∀ j, j < l → spBad r.steps.list t.states.list.length t.vars.list.length r.args j = none) (fun l => r.steps.list.length - l) 0 ⟨Nat.zero_le _, fun _ h => by omega⟩ (fun l x y hG => ?_)
      obtain ⟨p1, p2⟩ := hG
      dsimp only [List.cons_append, List.nil_append]
      rcases Nat.lt_or_ge l r.steps.list.length with hl | hl
      · obtain ⟨z, hz⟩ := at_some hl
        have hzo := hok.2.2.2.2.2 z (List.mem_of_getElem? hz)
        repeat' (first
          | intro _
          | refine Ws ?_
          | (refine Wt ?_ ?_ <;> intro _ <;> try (exfalso; omega))
          | (refine Wu ?_ ?_ <;> intro _)
          | refine Wo.call0 (r_Rstep z t _ hzo) ?_
          | refine Wv ?_
          | refine Wz ?_
          | fail)
        · exact Rd (l + 1) (by omega) ⟨by omega, none_succ p2 (by rw [spBad_eq hz, if_pos (by assumption)])⟩
        · have hb3 := scan_found (p := spBad r.steps.list t.states.list.length t.vars.list.length r.args) (b := spE z t.states.list.length t.vars.list.length r.args) p2 (by rw [spBad_eq hz, if_neg (by assumption)]) (n := r.steps.list.length) (by omega)
          have hne : ¬ spE z t.states.list.length t.vars.list.length r.args = 0 := by assumption
          have hS : steps' r.steps.list t.states.list.length t.vars.list.length r.args = ((l : Int), spE z t.states.list.length t.vars.list.length r.args) := by
            unfold steps'; rw [if_neg hs0', if_neg hs3', hb3]; rfl
          simp only [ruleL, hF, hG, hS, ne_eq, not_true_eq_false, if_false]
          rw [if_pos hne]; rfl
      · have hb3 := scan_none (p := spBad r.steps.list t.states.list.length t.vars.list.length r.args) (n := r.steps.list.length) (fun j hj => p2 j (by omega))
        have hS : steps' r.steps.list t.states.list.length t.vars.list.length r.args = (0, 0) := by
          unfold steps'; rw [if_neg hs0', if_neg hs3', hb3]; rfl
        repeat' (first
          | intro _
          | refine Ws ?_
          | (refine Wt ?_ ?_ <;> intro _ <;> try (exfalso; omega))
          | (refine Wu ?_ ?_ <;> intro _)
          | refine Wv ?_
          | refine Wz ?_
          | fail)
        simp only [ruleL, hF, hG, hS, ne_eq, not_true_eq_false, if_false]
        rfl
theorem r_RTo (r : Rl) (s : Int) (hr : r.ok) (H : Hp) : Runs Try.prog pol 22 [.val (rlV r), .val (iv s)] H ([.val (iv (to' r s))], [], H) := by
  have hok := hr.2.2.2.2.1
  unfold Sl.ok at hok
  refine Runs.told (fn := Try.f22) (n := 28) [(0, .val (rlV r)), (1, .val (iv s))] [(0, .gone 0), (1, .gone 0)] rfl Try.func22 rfl rfl (by kernel_rfl) rfl (by repeat' constructor) (by repeat' constructor) ?_
  repeat' (first
    | intro _
    | refine Ws ?_
    | (refine Wt ?_ ?_ <;> intro _ <;> try (exfalso; omega))
    | (refine Wu ?_ ?_ <;> intro _)
    | refine Wv ?_
    | refine Wz ?_
    | fail)
  refine Wx.loop [1, 2, 27] [0, 1, 2] (fun (k, z) => [(5, .val (iv z))]) (fun (k, z) => []) (fun (k, z) => z = (k : Nat) - 1 ∧ k ≤ r.steps.list.length ∧ to' r s = (r.steps.list.take k).foldl toF s) (fun (k, z) => k) (r.steps.list.length, (r.steps.list.length : Int) - 1) ⟨rfl, Nat.le_refl _, by rw [List.take_length]; rfl⟩ (fun a x y hG => ?_)
  obtain ⟨k, z⟩ := a
  obtain ⟨h0, h1, h2⟩ := hG
  dsimp only [List.cons_append, List.nil_append]
  rcases Nat.eq_zero_or_pos k with hk | hk
  · subst hk
    repeat' (first
      | intro _
      | refine Ws ?_
      | (refine Wt ?_ ?_ <;> intro _ <;> try (exfalso; omega))
      | (refine Wu ?_ ?_ <;> intro _)
      | refine Wv ?_
      | refine Wz ?_
      | fail)
    rw [h2]; rfl
  · have hzz : z.toNat = k - 1 := by omega
    obtain ⟨q, hq⟩ := at_some (show z.toNat < r.steps.list.length by omega)
    have hs : to' r s = toF ((r.steps.list.take (k - 1)).foldl toF s) q := by
      rw [h2]
      conv => lhs; rw [show k = (k - 1) + 1 by omega]
      rw [List.take_add_one, ← hzz, hq, List.foldl_append]; rfl
    repeat' (first
      | intro _
      | refine Ws ?_
      | (refine Wt ?_ ?_ <;> intro _ <;> try (exfalso; omega))
      | (refine Wu ?_ ?_ <;> intro _)
      | refine Wv ?_
      | refine Wz ?_
      | fail)
    · rw [hs]; unfold toF; rw [if_pos (by omega)]
    · exact Rd (k - 1, z - 1) (by dsimp only; omega) ⟨by dsimp only; omega, by dsimp only; omega, by rw [hs]; unfold toF; rw [if_neg (by omega)]⟩
theorem r_RFor (t : Tb) (n s : Int) (ht : t.ok) (H : Hp) : Runs Try.prog pol 14 [.val (tbV t), .val (iv n), .val (iv s)] H ([.val (.bool (for' t n s))], [], H) := by
  by_cases hb : 0 ≤ n ∧ n < t.rules.list.length
  · obtain ⟨r, hr⟩ := at_some (show n.toNat < t.rules.list.length by omega)
    have hok := (ht.2.2.2.2 r (List.mem_of_getElem? hr)).2.2.1.1
    unfold Sl.ok at hok
    refine Runs.told (fn := Try.f14) (n := 63) [(0, .val (tbV t)), (1, .val (iv n)), (2, .val (iv s))] [(0, .gone 0), (1, .gone 0), (2, .gone 0)] rfl Try.func14 rfl rfl (by kernel_rfl) rfl (by repeat' constructor) (by repeat' constructor) ?_
    repeat' (first
      | intro _
      | refine Ws ?_
      | (refine Wt ?_ ?_ <;> intro _ <;> try (exfalso; omega))
      | (refine Wu ?_ ?_ <;> intro _)
      | refine Wv ?_
      | refine Wz ?_
      | fail)
    · simp [for']; omega
    · simp [for']; omega
    · rename_i e1 e2 e3 e4 e5
      have hc : 0 ≤ n ∧ n < t.rules.list.length ∧ 0 ≤ s ∧ s < t.states.list.length := by omega
      refine Wx.loop [1, 2, 3, 6, 62] [0, 1, 2, 3] (fun (k, b) => [(8, .val (iv (k : Nat))), (7, .val (.bool b))]) (fun (k, b) => []) (fun (k, b) => k ≤ r.fr.list.length ∧ b = or ((r.fr.list.take k).any (fun o => decide (o = s))) r.fr.list.isEmpty) (fun (k, b) => r.fr.list.length - k) (0, true) ⟨Nat.zero_le _, by have : r.fr.list = [] := List.eq_nil_of_length_eq_zero (by omega); simp [this]⟩ (fun a x y hG => ?_)
      obtain ⟨k, b⟩ := a
      obtain ⟨h1, h2⟩ := hG
      dsimp only [List.cons_append, List.nil_append]
      rcases Nat.lt_or_ge k r.fr.list.length with hk | hk
      · exfalso; omega
      · repeat' (first
          | intro _
          | refine Ws ?_
          | (refine Wt ?_ ?_ <;> intro _ <;> try (exfalso; omega))
          | (refine Wu ?_ ?_ <;> intro _)
          | refine Wv ?_
          | refine Wz ?_
          | fail)
        rw [List.take_of_length_le hk] at h2
        rw [h2]
        simp only [for', decide_eq_true hc, hr, Bool.true_and]
    · rename_i e1 e2 e3 e4 e5
      have hc : 0 ≤ n ∧ n < t.rules.list.length ∧ 0 ≤ s ∧ s < t.states.list.length := by omega
      refine Wx.loop [1, 2, 3, 6, 62] [0, 1, 2, 3] (fun (k, b) => [(8, .val (iv (k : Nat))), (7, .val (.bool b))]) (fun (k, b) => []) (fun (k, b) => k ≤ r.fr.list.length ∧ b = or ((r.fr.list.take k).any (fun o => decide (o = s))) r.fr.list.isEmpty) (fun (k, b) => r.fr.list.length - k) (0, false) ⟨Nat.zero_le _, by have : r.fr.list ≠ [] := fun h => e5 (by rw [h]; rfl); simp [this]⟩ (fun a x y hG => ?_)
      obtain ⟨k, b⟩ := a
      obtain ⟨h1, h2⟩ := hG
      dsimp only [List.cons_append, List.nil_append]
      rcases Nat.lt_or_ge k r.fr.list.length with hk | hk
      · obtain ⟨z, hz⟩ := at_some hk
        have hs : ((r.fr.list.take (k + 1)).any (fun o => decide (o = s)) || r.fr.list.isEmpty) = (b || decide (z = s)) := by
          rw [List.take_add_one, hz, List.any_append, h2]
          simp only [Option.toList_some, List.any_cons, List.any_nil, Bool.or_false]
          cases (r.fr.list.take k).any (fun o => decide (o = s)) <;> cases r.fr.list.isEmpty <;> cases decide (z = s) <;> rfl
        cases b
        · repeat' (first
            | intro _
            | refine Ws ?_
            | (refine Wt ?_ ?_ <;> intro _ <;> try (exfalso; omega))
            | (refine Wu ?_ ?_ <;> intro _)
            | refine Wv ?_
            | refine Wz ?_
            | fail)
          · exact Rd (k + 1, true) (by dsimp only; omega) ⟨by dsimp only; omega, by rw [hs, decide_eq_true (by assumption)] <;> rfl⟩
          · exact Rd (k + 1, false) (by dsimp only; omega) ⟨by dsimp only; omega, by rw [hs, decide_eq_false (by assumption)] <;> rfl⟩
        · repeat' (first
            | intro _
            | refine Ws ?_
            | (refine Wt ?_ ?_ <;> intro _ <;> try (exfalso; omega))
            | (refine Wu ?_ ?_ <;> intro _)
            | refine Wv ?_
            | refine Wz ?_
            | fail)
          exact Rd (k + 1, true) (by dsimp only; omega) ⟨by dsimp only; omega, by rw [hs] <;> rfl⟩
      · repeat' (first
          | intro _
          | refine Ws ?_
          | (refine Wt ?_ ?_ <;> intro _ <;> try (exfalso; omega))
          | (refine Wu ?_ ?_ <;> intro _)
          | refine Wv ?_
          | refine Wz ?_
          | fail)
        rw [List.take_of_length_le hk] at h2
        rw [h2]
        simp only [for', decide_eq_true hc, hr, Bool.true_and]
  · refine Runs.told (fn := Try.f14) (n := 63) [(0, .val (tbV t)), (1, .val (iv n)), (2, .val (iv s))] [(0, .gone 0), (1, .gone 0), (2, .gone 0)] rfl Try.func14 rfl rfl (by kernel_rfl) rfl (by repeat' constructor) (by repeat' constructor) ?_
    repeat' (first
      | intro _
      | refine Ws ?_
      | (refine Wt ?_ ?_ <;> intro _ <;> try (exfalso; omega))
      | (refine Wu ?_ ?_ <;> intro _)
      | refine Wv ?_
      | refine Wz ?_
      | fail)
    all_goals (simp [for']; omega)
end Go.Vi.CYtdfhbmallnegfaa
