/-
  The reference: what is wrong with a table.
-/
import Derived.Test.YtdfhbmallnegfaaCxG
namespace Go.Vi.CYtdfhbmallnegfaa
open Go.Vi Go.Proofs Go.Proofs.Ytdfhbmallnegfaa
set_option linter.unusedVariables false
set_option maxHeartbeats 8000000
set_option maxRecDepth 100000
set_option linter.unusedSimpArgs false

theorem r_RNames (s : Sl ByteArray) (most : Int) (hs : Sl.ok s) (H : Hp) : Runs Try.prog pol 30 [.val (slV VV.str s), .val (iv most)] H ([.val (.agg [iv (names s.list most).1, iv (names s.list most).2])], [], H) := by
  unfold Sl.ok at hs
  refine Runs.told (fn := Try.f30) (n := 43) [(0, .val (slV VV.str s)), (1, .val (iv most))] [(0, .gone 0), (1, .gone 0)] rfl Try.func30 rfl rfl (by kernel_rfl) rfl (by repeat' constructor) (by repeat' constructor) ?_
  repeat' (first
    | intro _
    | refine Ws ?_
    | (refine Wt ?_ ?_ <;> intro _ <;> try (exfalso; omega))
    | (refine Wu ?_ ?_ <;> intro _)
    | refine Wv ?_
    | refine Wz ?_
    | fail)
  · simp [names, *]
  rename_i hb hm
  have hm' : ¬ (s.list.length : Int) > most := by omega
  refine Wx.loop [0, 4, 42] [0, 1, 4] (fun k => [(5, .val (iv (k : Nat)))]) (fun k => []) (fun k => k ≤ s.list.length ∧ ∀ j, j < k → nameBad s.list j = none) (fun k => s.list.length - k) 0 ⟨Nat.zero_le _, fun _ h => by omega⟩ (fun k x y hG => ?_)
  obtain ⟨h1, h2⟩ := hG
  dsimp only [List.cons_append, List.nil_append]
  rcases Nat.lt_or_ge k s.list.length with hk | hk
  · obtain ⟨z, hz⟩ := at_some hk
    repeat' (first
      | intro _
      | refine Ws ?_
      | (refine Wt ?_ ?_ <;> intro _ <;> try (exfalso; omega))
      | (refine Wu ?_ ?_ <;> intro _)
      | refine Wo.callB (r_RName _) (fun _ => ?_) (fun _ => ?_)
      | refine Wv ?_
      | refine Wz ?_
      | fail)
    · refine Wx.loop [0, 4, 5, 12, 13, 14, 15, 16, 17, 18, 19, 20, 21, 22, 23, 24, 25, 42] [0, 1, 4, 22] (fun m => [(6, .val (iv (m : Nat)))]) (fun m => []) (fun m => m ≤ k ∧ ∀ j, j < m → ∀ o, s.list[j]? = some o → decide (o = z) = false) (fun m => k - m) 0 ⟨Nat.zero_le _, fun _ h => by omega⟩ (fun m x y hG => ?_)
      obtain ⟨h3, h4⟩ := hG
      dsimp only [List.cons_append, List.nil_append]
      rcases Nat.lt_or_ge m k with hmk | hmk
      · obtain ⟨o, ho⟩ := at_some (show m < s.list.length by omega)
        repeat' (first
          | intro _
          | refine Ws ?_
          | (refine Wt ?_ ?_ <;> intro _ <;> try (exfalso; omega))
          | (refine Wu ?_ ?_ <;> intro _)
          | refine Wv ?_
          | refine Wz ?_
          | fail)
        · have hb := scan_found (p := nameBad s.list) (b := 9) h2 (by simp only [nameBad, hz]; rw [if_pos (by assumption), if_pos (any_took hmk ho (decide_eq_true (by assumption)))]) (n := s.list.length) (by omega)
          simp [names, hm', hb]
        · refine Rd (m + 1) (by omega) ⟨by omega, fun j hj o' ho' => ?_⟩
          rcases Nat.lt_succ_iff_lt_or_eq.1 hj with h | rfl
          · exact h4 j h o' ho'
          · rw [ho] at ho'; cases ho'; exact decide_eq_false (by assumption)
      · have hmm : m = k := by omega
        subst hmm
        repeat' (first
          | intro _
          | refine Ws ?_
          | (refine Wt ?_ ?_ <;> intro _ <;> try (exfalso; omega))
          | (refine Wu ?_ ?_ <;> intro _)
          | refine Wv ?_
          | refine Wz ?_
          | fail)
        exact Rd (m + 1) (by omega) ⟨by omega, none_succ h2 (by simp only [nameBad, hz]; rw [if_pos (by assumption), if_neg (by rw [any_take h4]; simp)])⟩
    · have hb := scan_found (p := nameBad s.list) (b := 6) h2 (by simp only [nameBad, hz]; rw [if_neg (by simp [*])]) (n := s.list.length) (by omega)
      simp [names, hm', hb]
  · repeat' (first
      | intro _
      | refine Ws ?_
      | (refine Wt ?_ ?_ <;> intro _ <;> try (exfalso; omega))
      | (refine Wu ?_ ?_ <;> intro _)
      | refine Wv ?_
      | refine Wz ?_
      | fail)
    have hb := scan_none (p := nameBad s.list) (n := s.list.length) (fun j hj => h2 j (by omega))
    simp [names, hm', hb]
theorem r_Rcode (s : Sl Ins) (vars args : Int) (hs : Sl.ok s) (H : Hp) : Runs Try.prog pol 61 [.val (slV insV s), .val (iv vars), .val (iv args)] H ([.val (iv (eCheck s.list vars args).2)], [], H) := by
  refine Runs.told (fn := Try.f61) (n := 17) [(0, .val (slV insV s)), (1, .val (iv vars)), (2, .val (iv args))] [(0, .gone 0), (1, .gone 0), (2, .gone 0)] rfl Try.func61 rfl rfl (by kernel_rfl) rfl (by repeat' constructor) (by repeat' constructor) ?_
  repeat' (first
    | intro _
    | refine Ws ?_
    | (refine Wt ?_ ?_ <;> intro _ <;> try (exfalso; omega))
    | (refine Wu ?_ ?_ <;> intro _)
    | refine Wo.call0 (r_RCheck3 _ _ _ hs) ?_
    | refine Wv ?_
    | refine Wz ?_
    | fail)
  rfl
def gdE (g : Gd) (vars args : Int) : Int := if g.code < 16 ∨ 63 < g.code then 3 else (eCheck g.test.list vars args).2
theorem gdBad_eq {l : List Gd} {vars args : Int} {i : Nat} {g : Gd} (h : l[i]? = some g) : gdBad l vars args i = if gdE g vars args = 0 then none else some (gdE g vars args) := by
  simp only [gdBad, h]
  by_cases hc : g.code < 16 ∨ 63 < g.code
  · have e : gdE g vars args = 3 := by unfold gdE; rw [if_pos hc]
    rw [if_pos hc, e]; rfl
  · have e : gdE g vars args = (eCheck g.test.list vars args).2 := by unfold gdE; rw [if_neg hc]
    rw [if_neg hc, e]
theorem r_Rguard (g : Gd) (t : Tb) (args : Int) (hg : g.ok) (H : Hp) : Runs Try.prog pol 53 [.val (gdV g), .val (tbV t), .val (iv args)] H ([.val (iv (gdE g t.vars.list.length args))], [], H) := by
  refine Runs.told (fn := Try.f53) (n := 22) [(0, .val (gdV g)), (1, .val (tbV t)), (2, .val (iv args))] [(0, .gone 0), (1, .gone 0), (2, .gone 0)] rfl Try.func53 rfl rfl (by kernel_rfl) rfl (by repeat' constructor) (by repeat' constructor) ?_
  repeat' (first
    | intro _
    | refine Ws ?_
    | (refine Wt ?_ ?_ <;> intro _ <;> try (exfalso; omega))
    | (refine Wu ?_ ?_ <;> intro _)
    | refine Wo.call0 (r_Rcode _ _ _ hg.2.1) ?_
    | refine Wv ?_
    | refine Wz ?_
    | fail)
  · unfold gdE; rw [if_pos (by omega)]
  · unfold gdE; rw [if_pos (by omega)]
  · unfold gdE; rw [if_neg (by omega)]
def spE (s : Sp) (states vars args : Int) : Int := if states ≤ s.to then 3 else sets' s.sets.list vars args
theorem spBad_eq {l : List Sp} {a b c : Int} {i : Nat} {s : Sp} (h : l[i]? = some s) : spBad l a b c i = if spE s a b c = 0 then none else some (spE s a b c) := by
  simp only [spBad, h]
  by_cases hc : a ≤ s.to
  · have e : spE s a b c = 3 := by unfold spE; rw [if_pos hc]
    rw [if_pos hc, e]; rfl
  · have e : spE s a b c = sets' s.sets.list b c := by unfold spE; rw [if_neg hc]
    rw [if_neg hc, e]
theorem r_Rstep (s : Sp) (t : Tb) (args : Int) (hs : s.ok) (H : Hp) : Runs Try.prog pol 54 [.val (spV s), .val (tbV t), .val (iv args)] H ([.val (iv (spE s t.states.list.length t.vars.list.length args))], [], H) := by
  have hl := hs.1.1
  unfold Sl.ok at hl
  refine Runs.told (fn := Try.f54) (n := 64) [(0, .val (spV s)), (1, .val (tbV t)), (2, .val (iv args))] [(0, .gone 0), (1, .gone 0), (2, .gone 0)] rfl Try.func54 rfl rfl (by kernel_rfl) rfl (by repeat' constructor) (by repeat' constructor) ?_
  repeat' (first
    | intro _
    | refine Ws ?_
    | (refine Wt ?_ ?_ <;> intro _ <;> try (exfalso; omega))
    | (refine Wu ?_ ?_ <;> intro _)
    | refine Wv ?_
    | refine Wz ?_
    | fail)
  · unfold spE; rw [if_pos (by omega)]
  rename_i hto
  have hto' : ¬ (t.states.list.length : Int) ≤ s.to := by omega
  refine Wx.loop [2, 3, 4] [0, 1, 2, 3, 4] (fun k => [(7, .val (iv (k : Nat)))]) (fun k => []) (fun k => k ≤ s.sets.list.length ∧ ∀ j, j < k → stBad s.sets.list t.vars.list.length args j = none) (fun k => s.sets.list.length - k) 0 ⟨Nat.zero_le _, fun _ h => by omega⟩ (fun k x y hG => ?_)
  obtain ⟨h1, h2⟩ := hG
  dsimp only [List.cons_append, List.nil_append]
  rcases Nat.lt_or_ge k s.sets.list.length with hk | hk
  · obtain ⟨z, hz⟩ := at_some hk
    have hz' : Sl.ok z.value := (hs.1.2 z (List.mem_of_getElem? hz)).2.1
    repeat' (first
      | intro _
      | refine Ws ?_
      | (refine Wt ?_ ?_ <;> intro _ <;> try (exfalso; omega))
      | (refine Wu ?_ ?_ <;> intro _)
      | refine Wv ?_
      | refine Wz ?_
      | fail)
    all_goals first
      | (have hb := scan_found (p := stBad s.sets.list t.vars.list.length args) (b := 3) h2 (by simp only [stBad, hz]; rw [if_pos (by omega)]) (n := s.sets.list.length) (by omega)
         simp [spE, hto', sets', first0, hb]; done)
      | skip
    rename_i hv1 hv2
    have hv : ¬ (z.var < 0 ∨ (t.vars.list.length : Int) ≤ z.var) := by omega
    refine Wx.loop [2, 3, 4, 7, 8, 10, 17, 18, 19, 20, 21, 22, 23, 24, 25, 26, 27, 28, 29, 30, 31, 32, 33, 34, 35, 36, 37, 38, 39, 54, 55, 56, 57, 58, 59, 60, 61, 62, 63] [0, 1, 2, 3, 4, 8, 60] (fun m => [(9, .val (iv (m : Nat)))]) (fun m => []) (fun m => m ≤ k ∧ ∀ j, j < m → ∀ o, s.sets.list[j]? = some o → decide (o.var = z.var) = false) (fun m => k - m) 0 ⟨Nat.zero_le _, fun _ h => by omega⟩ (fun m x y hG => ?_)
    obtain ⟨h3, h4⟩ := hG
    dsimp only [List.cons_append, List.nil_append]
    rcases Nat.lt_or_ge m k with hmk | hmk
    · obtain ⟨o, ho⟩ := at_some (show m < s.sets.list.length by omega)
      repeat' (first
        | intro _
        | refine Ws ?_
        | (refine Wt ?_ ?_ <;> intro _ <;> try (exfalso; omega))
        | (refine Wu ?_ ?_ <;> intro _)
        | refine Wv ?_
        | refine Wz ?_
        | fail)
      · have hb := scan_found (p := stBad s.sets.list t.vars.list.length args) (b := 9) h2 (by simp only [stBad, hz]; rw [if_neg hv, if_pos (any_took hmk ho (decide_eq_true (by assumption)))]) (n := s.sets.list.length) (by omega)
        simp [spE, hto', sets', first0, hb]
      · refine Rd (m + 1) (by omega) ⟨by omega, fun j hj o' ho' => ?_⟩
        rcases Nat.lt_succ_iff_lt_or_eq.1 hj with h | rfl
        · exact h4 j h o' ho'
        · rw [ho] at ho'; cases ho'; exact decide_eq_false (by assumption)
    · have hmm : m = k := by omega
      subst hmm
      have hat := any_take (p := fun o : St => decide (o.var = z.var)) h4
      repeat' (first
        | intro _
        | refine Ws ?_
        | (refine Wt ?_ ?_ <;> intro _ <;> try (exfalso; omega))
        | (refine Wu ?_ ?_ <;> intro _)
        | refine Wo.call0 (r_Rcode _ _ _ hz') ?_
        | refine Wv ?_
        | refine Wz ?_
        | fail)
      all_goals first
        | exact Rd (m + 1) (by omega) ⟨by omega, none_succ h2 (by simp only [stBad, hz]; rw [if_neg hv, if_neg (by simp [hat]), if_pos (by assumption)])⟩
        | (have hb := scan_found (p := stBad s.sets.list t.vars.list.length args) (b := (eCheck z.value.list t.vars.list.length args).2) h2 (by simp only [stBad, hz]; rw [if_neg hv, if_neg (by simp [hat]), if_neg (by assumption)]) (n := s.sets.list.length) (by omega)
           simp [spE, hto', sets', first0, hb]; done)
        | trace_state
  · repeat' (first
      | intro _
      | refine Ws ?_
      | (refine Wt ?_ ?_ <;> intro _ <;> try (exfalso; omega))
      | (refine Wu ?_ ?_ <;> intro _)
      | refine Wv ?_
      | refine Wz ?_
      | fail)
    have hb := scan_none (p := stBad s.sets.list t.vars.list.length args) (n := s.sets.list.length) (fun j hj => h2 j (by omega))
    simp [spE, hto', sets', first0, hb]
end Go.Vi.CYtdfhbmallnegfaa
