/-
  Guards, what steps set, steps.
-/
import Derived.Test.YtdfhbmallnegfaaCxC
import Derived.Test.YtdfhbmallnegfaaCxD
namespace Go.Vi.CYtdfhbmallnegfaa
open Go.Vi Go.Proofs Go.Proofs.Ytdfhbmallnegfaa
set_option linter.unusedVariables false
set_option maxHeartbeats 8000000
set_option maxRecDepth 100000
set_option linter.unusedSimpArgs false

def gdBad (l : List Gd) (vars args : Int) (i : Nat) : Option Int :=
  match l[i]? with
  | some g => if g.code < 16 ∨ 63 < g.code then some 3 else if (eCheck g.test.list vars args).2 = 0 then none else some (eCheck g.test.list vars args).2
  | none => none
def guards' (l : List Gd) (vars args : Int) : Int × Int := if (4 : Int) < l.length then (0, 4) else first0 (scan (gdBad l vars args) l.length)
def stBad (l : List St) (vars args : Int) (i : Nat) : Option Int :=
  match l[i]? with
  | some s => if s.var < 0 ∨ vars ≤ s.var then some 3 else if (l.take i).any (fun o => decide (o.var = s.var)) then some 9 else if (eCheck s.value.list vars args).2 = 0 then none else some (eCheck s.value.list vars args).2
  | none => none
def sets' (l : List St) (vars args : Int) : Int := (first0 (scan (stBad l vars args) l.length)).2
def spBad (l : List Sp) (states vars args : Int) (i : Nat) : Option Int :=
  match l[i]? with
  | some s => if states ≤ s.to then some 3 else if sets' s.sets.list vars args = 0 then none else some (sets' s.sets.list vars args)
  | none => none
def steps' (l : List Sp) (states vars args : Int) : Int × Int := if l.length = 0 then (0, 2) else if (3 : Int) < l.length then (0, 4) else first0 (scan (spBad l states vars args) l.length)

theorem r_guards (s : Sl Gd) (vars args : Int) (hs : Sl.ok s) (ha : ∀ z ∈ s.list, z.ok) (H : Hp) : Runs Try.prog pol 49 [.val (slV gdV s), .val (iv vars), .val (iv args)] H ([.val (iv (guards' s.list vars args).1), .val (iv (guards' s.list vars args).2)], [], H) := by
  unfold Sl.ok at hs
  refine Runs.told (fn := Try.f49) (n := 44) [(0, .val (slV gdV s)), (1, .val (iv vars)), (2, .val (iv args))] [(0, .gone 0), (1, .gone 0), (2, .gone 0)] rfl Try.func49 rfl rfl (by kernel_rfl) rfl (by repeat' constructor) (by repeat' constructor) ?_
  repeat' (first
    | intro _
    | refine Ws ?_
    | (refine Wt ?_ ?_ <;> intro _ <;> try (exfalso; omega))
    | (refine Wu ?_ ?_ <;> intro _)
    | refine Wv ?_
    | refine Wz ?_
    | fail)
  · simp [guards', *]
  have h4' : ¬ (4 : Int) < s.list.length := by omega
  refine Wx.loop [1, 2, 15, 16] [0, 1, 2] (fun k => [(17, .val (iv (k : Nat)))]) (fun k => []) (fun k => k ≤ s.list.length ∧ ∀ j, j < k → gdBad s.list vars args j = none) (fun k => s.list.length - k) 0 ⟨Nat.zero_le _, fun _ h => by omega⟩ (fun k x y hG => ?_)
  obtain ⟨h1, h2⟩ := hG
  dsimp only [List.cons_append, List.nil_append]
  rcases Nat.lt_or_ge k s.list.length with hk | hk
  · obtain ⟨z, hz⟩ := at_some hk
    have hz' : Sl.ok z.test := (ha z (List.mem_of_getElem? hz)).2.1
    repeat' (first
      | intro _
      | refine Ws ?_
      | (refine Wt ?_ ?_ <;> intro _ <;> try (exfalso; omega))
      | (refine Wu ?_ ?_ <;> intro _)
      | refine Wo.call0 (r_Check3 _ _ _ (by assumption)) ?_
      | refine Wv ?_
      | refine Wz ?_
      | fail)
    all_goals first
      | exact Rd (k + 1) (by omega) ⟨by omega, none_succ h2 (by simp only [gdBad, hz]; rw [if_neg (by omega), if_pos (by assumption)])⟩
      | (have hb := scan_found (p := gdBad s.list vars args) (b := 3) h2 (by simp only [gdBad, hz]; rw [if_pos (by omega)]) (n := s.list.length) (by omega)
         simp [guards', h4', first0, hb]; done)
      | (have hb := scan_found (p := gdBad s.list vars args) (b := (eCheck z.test.list vars args).2) h2 (by simp only [gdBad, hz]; rw [if_neg (by omega), if_neg (by assumption)]) (n := s.list.length) (by omega)
         simp [guards', h4', first0, hb]; done)
      | trace_state
  · repeat' (first
      | intro _
      | refine Ws ?_
      | (refine Wt ?_ ?_ <;> intro _ <;> try (exfalso; omega))
      | (refine Wu ?_ ?_ <;> intro _)
      | refine Wv ?_
      | refine Wz ?_
      | fail)
    have hb := scan_none (p := gdBad s.list vars args) (n := s.list.length) (fun j hj => h2 j (by omega))
    simp [guards', h4', first0, hb]
theorem r_sets (s : Sl St) (vars args : Int) (hs : Sl.ok s) (ha : ∀ z ∈ s.list, z.ok) (H : Hp) : Runs Try.prog pol 60 [.val (slV stV s), .val (iv vars), .val (iv args)] H ([.val (iv (sets' s.list vars args))], [], H) := by
  unfold Sl.ok at hs
  refine Runs.told (fn := Try.f60) (n := 55) [(0, .val (slV stV s)), (1, .val (iv vars)), (2, .val (iv args))] [(0, .gone 0), (1, .gone 0), (2, .gone 0)] rfl Try.func60 rfl rfl (by kernel_rfl) rfl (by repeat' constructor) (by repeat' constructor) ?_
  repeat' (first
    | intro _
    | refine Ws ?_
    | (refine Wt ?_ ?_ <;> intro _ <;> try (exfalso; omega))
    | (refine Wu ?_ ?_ <;> intro _)
    | refine Wv ?_
    | refine Wz ?_
    | fail)
  refine Wx.loop [0, 1, 2, 13, 14] [0, 1, 2] (fun k => [(15, .val (iv (k : Nat)))]) (fun k => []) (fun k => k ≤ s.list.length ∧ ∀ j, j < k → stBad s.list vars args j = none) (fun k => s.list.length - k) 0 ⟨Nat.zero_le _, fun _ h => by omega⟩ (fun k x y hG => ?_)
  obtain ⟨h1, h2⟩ := hG
  dsimp only [List.cons_append, List.nil_append]
  rcases Nat.lt_or_ge k s.list.length with hk | hk
  · obtain ⟨z, hz⟩ := at_some hk
    have hz' : Sl.ok z.value := (ha z (List.mem_of_getElem? hz)).2.1
    repeat' (first
      | intro _
      | refine Ws ?_
      | (refine Wt ?_ ?_ <;> intro _ <;> try (exfalso; omega))
      | (refine Wu ?_ ?_ <;> intro _)
      | refine Wv ?_
      | refine Wz ?_
      | fail)
    case refine_2.refine_2 =>
      rename_i s2 hs2
      have hl : s2.list.length = k := by rw [hs2, List.length_take]; omega
      refine Wx.loop [0, 1, 2, 7, 8, 12, 13, 14, 15, 16, 17, 18, 19, 20, 21, 22, 23, 24, 25, 26, 27, 28, 29, 30, 31, 32, 43, 44, 45, 46, 47, 48, 49, 50, 51, 52, 53, 54] [0, 1, 2, 8, 48] (fun m => [(33, .val (iv (m : Nat)))]) (fun m => []) (fun m => m ≤ k ∧ ∀ j, j < m → ∀ o, s.list[j]? = some o → decide (o.var = z.var) = false) (fun m => k - m) 0 ⟨Nat.zero_le _, fun _ h => by omega⟩ (fun m x y hG => ?_)
      obtain ⟨h3, h4⟩ := hG
      dsimp only [List.cons_append, List.nil_append]
      rcases Nat.lt_or_ge m k with hm | hm
      · obtain ⟨o, ho⟩ := at_some (show m < s2.list.length by omega)
        have ho2 := ho
        rw [hs2] at ho2
        have ho2 := (take_at ho2).2
        repeat' (first
          | intro _
          | refine Ws ?_
          | (refine Wt ?_ ?_ <;> intro _ <;> try (exfalso; omega))
          | (refine Wu ?_ ?_ <;> intro _)
          | refine Wv ?_
          | refine Wz ?_
          | fail)
        · have hb := scan_found (p := stBad s.list vars args) (b := 9) h2 (by simp only [stBad, hz]; rw [if_neg (by omega), if_pos (any_took (by simpa using hm) ho2 (decide_eq_true (by assumption)))]) (n := s.list.length) (by omega)
          simp [sets', first0, hb]
        · refine Rd (m + 1) (by omega) ⟨by omega, fun j hj o' ho' => ?_⟩
          rcases Nat.lt_succ_iff_lt_or_eq.1 hj with h | rfl
          · exact h4 j h o' ho'
          · rw [ho2] at ho'; cases ho'; exact decide_eq_false (by assumption)
      · have hm : m = k := by omega
        subst hm
        have hat := any_take (p := fun o : St => decide (o.var = z.var)) h4
        repeat' (first
          | intro _
          | refine Ws ?_
          | (refine Wt ?_ ?_ <;> intro _ <;> try (exfalso; omega))
          | (refine Wu ?_ ?_ <;> intro _)
          | refine Wo.call0 (r_Check3 _ _ _ (by assumption)) ?_
          | refine Wv ?_
          | refine Wz ?_
          | fail)
        all_goals first
          | exact Rd (m + 1) (by omega) ⟨by omega, none_succ h2 (by simp only [stBad, hz]; rw [if_neg (by omega), if_neg (by simp [hat]), if_pos (by assumption)])⟩
          | (have hb := scan_found (p := stBad s.list vars args) (b := (eCheck z.value.list vars args).2) h2 (by simp only [stBad, hz]; rw [if_neg (by omega), if_neg (by simp [hat]), if_neg (by assumption)]) (n := s.list.length) (by omega)
             simp [sets', first0, hb]; done)
          | trace_state
    all_goals (
      have hb := scan_found (p := stBad s.list vars args) (b := 3) h2 (by simp only [stBad, hz]; rw [if_pos (by omega)]) (n := s.list.length) (by omega)
      simp [sets', first0, hb])
  · repeat' (first
      | intro _
      | refine Ws ?_
      | (refine Wt ?_ ?_ <;> intro _ <;> try (exfalso; omega))
      | (refine Wu ?_ ?_ <;> intro _)
      | refine Wv ?_
      | refine Wz ?_
      | fail)
    have hb := scan_none (p := stBad s.list vars args) (n := s.list.length) (fun j hj => h2 j (by omega))
    simp [sets', first0, hb]
theorem r_steps (s : Sl Sp) (t : Tb) (args : Int) (hs : Sl.ok s) (ha : ∀ z ∈ s.list, z.ok) (ht : t.ok) (H : Hp) : Runs Try.prog pol 50 [.val (slV spV s), .val (tbV t), .val (iv args)] H ([.val (iv (steps' s.list t.states.list.length t.vars.list.length args).1), .val (iv (steps' s.list t.states.list.length t.vars.list.length args).2)], [], H) := by
  unfold Sl.ok at hs
  unfold tbV
  refine Runs.told (fn := Try.f50) (n := 45) [(0, .val (slV spV s)), (1, .val (.agg [slV VV.str t.states, slV VV.str t.vars, slV iv t.start, slV rlV t.rules])), (2, .val (iv args))] [(0, .gone 0), (1, .gone 0), (2, .gone 0)] rfl Try.func50 rfl rfl (by kernel_rfl) rfl (by repeat' constructor) (by repeat' constructor) ?_
  repeat' (first
    | intro _
    | refine Ws ?_
    | (refine Wt ?_ ?_ <;> intro _ <;> try (exfalso; omega))
    | (refine Wu ?_ ?_ <;> intro _)
    | refine Wv ?_
    | refine Wz ?_
    | fail)
  · simp only [steps']; rw [if_pos (by omega)]
  · simp only [steps']; rw [if_neg (by omega), if_pos (by omega)]
  have h0 : ¬ s.list.length = 0 := by omega
  have h4' : ¬ (3 : Int) < s.list.length := by omega
  refine Wx.loop [2, 4, 19, 20] [0, 1, 2, 4] (fun k => [(21, .val (iv (k : Nat)))]) (fun k => []) (fun k => k ≤ s.list.length ∧ ∀ j, j < k → spBad s.list t.states.list.length t.vars.list.length args j = none) (fun k => s.list.length - k) 0 ⟨Nat.zero_le _, fun _ h => by omega⟩ (fun k x y hG => ?_)
  obtain ⟨h1, h2⟩ := hG
  dsimp only [List.cons_append, List.nil_append]
  rcases Nat.lt_or_ge k s.list.length with hk | hk
  · obtain ⟨z, hz⟩ := at_some hk
    have hz' := (ha z (List.mem_of_getElem? hz)).1
    repeat' (first
      | intro _
      | refine Ws ?_
      | (refine Wt ?_ ?_ <;> intro _ <;> try (exfalso; omega))
      | (refine Wu ?_ ?_ <;> intro _)
      | refine Wo.call0 (r_sets _ _ _ hz'.1 hz'.2) ?_
      | refine Wv ?_
      | refine Wz ?_
      | fail)
    all_goals first
      | exact Rd (k + 1) (by omega) ⟨by omega, none_succ h2 (by simp only [spBad, hz]; rw [if_neg (by omega), if_pos (by assumption)])⟩
      | (have hb := scan_found (p := spBad s.list t.states.list.length t.vars.list.length args) (b := 3) h2 (by simp only [spBad, hz]; rw [if_pos (by omega)]) (n := s.list.length) (by omega)
         simp [steps', h4', h0, first0, hb]; done)
      | (have hb := scan_found (p := spBad s.list t.states.list.length t.vars.list.length args) (b := sets' z.sets.list t.vars.list.length args) h2 (by simp only [spBad, hz]; rw [if_neg (by omega), if_neg (by assumption)]) (n := s.list.length) (by omega)
         simp [steps', h4', h0, first0, hb]; done)
      | trace_state
  · repeat' (first
      | intro _
      | refine Ws ?_
      | (refine Wt ?_ ?_ <;> intro _ <;> try (exfalso; omega))
      | (refine Wu ?_ ?_ <;> intro _)
      | refine Wv ?_
      | refine Wz ?_
      | fail)
    have hb := scan_none (p := spBad s.list t.states.list.length t.vars.list.length args) (n := s.list.length) (fun j hj => h2 j (by omega))
    simp [steps', h4', h0, first0, hb]
end Go.Vi.CYtdfhbmallnegfaa
