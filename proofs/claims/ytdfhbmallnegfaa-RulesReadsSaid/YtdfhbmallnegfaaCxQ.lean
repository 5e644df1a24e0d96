/-
  The reference: what is wrong with a table, all in all.
-/
import Derived.Test.YtdfhbmallnegfaaCxP
namespace Go.Vi.CYtdfhbmallnegfaa
open Go.Vi Go.Proofs Go.Proofs.Ytdfhbmallnegfaa
set_option linter.unusedVariables false
set_option maxHeartbeats 8000000
set_option maxRecDepth 100000
set_option linter.unusedSimpArgs false

theorem check_at {t : Tb} {k : Nat} {r : Rl} (hz : table' t = ⟨0, 0, 0, 0⟩) (h : ∀ j, j < k → ruleBad t j = none) (hr : t.rules.list[k]? = some r) (hb : (rule' t k r).z = false) : check' t = rule' t k r := by
  have hl : k < t.rules.list.length := by
    rcases Nat.lt_or_ge k t.rules.list.length with h | h
    · exact h
    · rw [List.getElem?_eq_none h] at hr; cases hr
  have hs := scan_found (p := ruleBad t) (b := rule' t k r) h (by simp only [ruleBad, hr, hb]; rfl) hl
  unfold check'
  rw [hz, hs]; rfl
theorem check_none {t : Tb} (hz : table' t = ⟨0, 0, 0, 0⟩) (h : ∀ j, j < t.rules.list.length → ruleBad t j = none) : check' t = ⟨0, 0, 0, 0⟩ := by
  unfold check'
  rw [hz, scan_none h]; rfl
theorem check_table {t : Tb} {f : Flt} (hz : table' t = f) (hf : f.z = false) : check' t = f := by
  unfold check'
  rw [hz, hf]; rfl
theorem find_not {l : List Rl} {name : ByteArray} {k : Nat} (h : ∀ j, j < k → ∀ r, l[j]? = some r → decide (r.name = name) = false) (hk : ∃ r, l[k]? = some r ∧ r.name = name) : ¬ find' l name < k := by
  rw [find_ge (fun j hj r hr => of_decide_eq_false (h j hj r hr)) hk]; omega
theorem find_yes {l : List Rl} {name : ByteArray} {j k : Nat} {r : Rl} (hj : j < k) (hr : l[j]? = some r) (he : r.name = name) (hk : ∃ r, l[k]? = some r ∧ r.name = name) : find' l name < k := by
  rcases Int.lt_or_le (find' l name) k with h | h
  · exact h
  · exact absurd he (find_lt (by omega) hk j hj r hr)

theorem r_RCheck (t : Tb) (ht : t.ok) (H : Hp) : Runs Try.prog pol 11 [.val (tbV t)] H ([.val (fltV (check' t))], [], H) := by
  have hst := ht.2.2.1.1
  have hrl := ht.2.2.2.1
  unfold Sl.ok at hst hrl
  refine Runs.told (fn := Try.f11) (n := 122) [(0, .val (tbV t))] [(0, .gone 0)] rfl Try.func11 rfl rfl (by kernel_rfl) rfl (by repeat' constructor) (by repeat' constructor) ?_
  repeat' (first
    | intro _
    | refine Ws ?_
    | (refine Wt ?_ ?_ <;> intro _ <;> try (exfalso; omega))
    | (refine Wu ?_ ?_ <;> intro _)
    | refine Wo.call0 (r_RNames _ _ ht.1.1) ?_
    | refine Wo.call0 (r_RNames _ _ ht.2.1.1) ?_
    | refine Wv ?_
    | refine Wz ?_
    | fail)
  · rename_i h0 h1 _
    have hnil : t.states.list = [] := List.eq_nil_of_length_eq_zero (by omega)
    have e : check' t = ⟨2, -1, 1, 0⟩ := check_table (by unfold table'; rw [if_pos ⟨h0, by omega⟩]) (by simp [Flt.z])
    have e0 : (names t.states.list 8).1 = 0 := by rw [hnil]; rfl
    rw [e, e0]; rfl
  · rename_i g1 g2 g3 e1 e2 e3 e4 e5
    have h0 : ¬ ((names t.states.list 8).2 = 0 ∧ t.states.list.length = 0) := by omega
    have h5 : ¬ (t.start.list.length ≠ t.vars.list.length) := by omega
    refine Wx.loop [1, 2, 5, 6, 7, 8, 65, 66, 67, 68, 69, 70, 71, 72, 73, 74, 75, 76, 77, 78, 79, 80, 81, 82, 83, 84, 85, 86, 87, 88, 89, 90, 91, 92, 93, 94, 95, 96, 97, 98, 99, 100, 101, 102, 103, 104, 105, 106, 107, 108, 109, 110, 111, 112, 113, 114, 115, 116, 117, 118, 119, 120, 121] [0, 1, 2, 3, 6, 8, 11, 32, 84, 116] (fun k => [(4, .val (iv (k : Nat)))]) (fun k => []) (fun k => k ≤ t.start.list.length ∧ ∀ j, j < k → startBad t.start.list j = none) (fun k => t.start.list.length - k) 0 ⟨Nat.zero_le _, fun _ h => by omega⟩ (fun k x y hG => ?_)
    obtain ⟨h1, h2⟩ := hG
    dsimp only [List.cons_append, List.nil_append]
    rcases Nat.lt_or_ge k t.start.list.length with hk | hk
    · obtain ⟨z, hz⟩ := at_some hk
      repeat' (first
        | intro _
        | refine Ws ?_
        | (refine Wt ?_ ?_ <;> intro _ <;> try (exfalso; omega))
        | (refine Wu ?_ ?_ <;> intro _)
        | refine Wo.callB (r_Value3 _) (fun _ => ?_) (fun _ => ?_)
        | refine Wv ?_
        | refine Wz ?_
        | fail)
      · exact Rd (k + 1) (by omega) ⟨by omega, none_succ h2 (by simp only [startBad, hz]; rw [if_pos (by assumption)])⟩
      · have hb := scan_found (p := startBad t.start.list) (b := ()) h2 (by simp only [startBad, hz]; rw [if_neg (by simp [*])]) (n := t.start.list.length) (by omega)
        rw [check_table (t := t) (f := ⟨3, -1, 3, k⟩) (by unfold table'; rw [if_neg h0, if_neg (by simp [e3]), if_neg (by simp [e4]), if_neg h5, hb]) (by simp [Flt.z])]
        rfl
    · have hb := scan_none (p := startBad t.start.list) (n := t.start.list.length) (fun j hj => h2 j (by omega))
      have htb : table' t = if 12 < t.rules.list.length then ⟨4, -1, 4, 0⟩ else ⟨0, 0, 0, 0⟩ := by
        unfold table'; rw [if_neg h0, if_neg (by simp [e3]), if_neg (by simp [e4]), if_neg h5, hb]
      repeat' (first
        | intro _
        | refine Ws ?_
        | (refine Wt ?_ ?_ <;> intro _ <;> try (exfalso; omega))
        | (refine Wu ?_ ?_ <;> intro _)
        | refine Wv ?_
        | refine Wz ?_
        | fail)
      · rw [check_table (t := t) (f := ⟨4, -1, 4, 0⟩) (by rw [htb, if_pos (by omega)]) (by simp [Flt.z])]
        rfl
      rename_i hr12
      have htz : table' t = ⟨0, 0, 0, 0⟩ := by rw [htb, if_neg (by omega)]
      refine Wx.loop [1, 2, 121] [0, 1, 2, 3, 11, 32, 61] (fun i => [(5, .val (iv (i : Nat)))]) (fun i => []) (fun i => i ≤ t.rules.list.length ∧ ∀ j, j < i → ruleBad t j = none) (fun i => t.rules.list.length - i) 0 ⟨Nat.zero_le _, fun _ h => by omega⟩ (fun i x y hG => ?_)
      obtain ⟨q1, q2⟩ := hG
      dsimp only [List.cons_append, List.nil_append]
      rcases Nat.lt_or_ge i t.rules.list.length with hi | hi
      · obtain ⟨r, hr⟩ := at_some hi
        have hrn : ∃ r', t.rules.list[i]? = some r' ∧ r'.name = r.name := ⟨r, hr, rfl⟩
        repeat' (first
          | intro _
          | refine Ws ?_
          | (refine Wt ?_ ?_ <;> intro _ <;> try (exfalso; omega))
          | (refine Wu ?_ ?_ <;> intro _)
          | refine Wo.callB (r_RName _) (fun _ => ?_) (fun _ => ?_)
          | refine Wv ?_
          | refine Wz ?_
          | fail)
        · rename_i hnm
          refine Wx.loop [1, 2, 5, 6, 8, 70, 71, 72, 73, 74, 75, 76, 77, 78, 79, 80, 81, 82, 83, 84, 85, 86, 87, 104, 105, 106, 107, 108, 109, 110, 111, 112, 113, 114, 115, 116, 117, 118, 119, 120, 121] [0, 1, 2, 3, 6, 8, 11, 32, 61, 84, 116] (fun m => [(7, .val (iv (m : Nat)))]) (fun m => []) (fun m => m ≤ i ∧ ∀ j, j < m → ∀ o, t.rules.list[j]? = some o → decide (o.name = r.name) = false) (fun m => i - m) 0 ⟨Nat.zero_le _, fun _ h => by omega⟩ (fun m x y hG => ?_)
          obtain ⟨h3, h4⟩ := hG
          dsimp only [List.cons_append, List.nil_append]
          rcases Nat.lt_or_ge m i with hmi | hmi
          · obtain ⟨o, ho⟩ := at_some (show m < t.rules.list.length by omega)
            repeat' (first
              | intro _
              | refine Ws ?_
              | (refine Wt ?_ ?_ <;> intro _ <;> try (exfalso; omega))
              | (refine Wu ?_ ?_ <;> intro _)
              | refine Wv ?_
              | refine Wz ?_
              | fail)
            · rename_i heq
              have hf : find' t.rules.list r.name < i := find_yes hmi ho heq hrn
              have hru : rule' t i r = ⟨9, i, 5, 0⟩ := by unfold rule'; rw [if_neg (by simp [hnm]), if_pos hf]
              rw [check_at htz q2 hr (by rw [hru]; simp [Flt.z]), hru]; rfl
            · refine Rd (m + 1) (by omega) ⟨by omega, fun j hj o' ho' => ?_⟩
              rcases Nat.lt_succ_iff_lt_or_eq.1 hj with h | rfl
              · exact h4 j h o' ho'
              · rw [ho] at ho'; cases ho'; exact decide_eq_false (by assumption)
          · have hmm : m = i := by omega
            subst hmm
            have hf : ¬ find' t.rules.list r.name < m := find_not h4 hrn
            repeat' (first
              | intro _
              | refine Ws ?_
              | (refine Wt ?_ ?_ <;> intro _ <;> try (exfalso; omega))
              | (refine Wu ?_ ?_ <;> intro _)
              | refine Wo.call0 (r_Rrule t m r hr ht) ?_
              | refine Wv ?_
              | refine Wz ?_
              | fail)
            · have hru : rule' t m r = ⟨3, m, 6, 0⟩ := by unfold rule'; rw [if_neg (by simp [hnm]), if_neg hf, if_pos (by omega)]
              rw [check_at htz q2 hr (by rw [hru]; simp [Flt.z]), hru]; rfl
            · have hru : rule' t m r = ⟨3, m, 6, 0⟩ := by unfold rule'; rw [if_neg (by simp [hnm]), if_neg hf, if_pos (by omega)]
              rw [check_at htz q2 hr (by rw [hru]; simp [Flt.z]), hru]; rfl
            · rename_i a1 a2 g8 he
              have hru : rule' t m r = ruleL t m r := by
                unfold rule'; rw [if_neg (by simp [hnm]), if_neg hf, if_neg (by omega)]; rfl
              exact Rd (m + 1) (by omega) ⟨by omega, none_succ q2 (by simp only [ruleBad, hr]; rw [hru, ruleL_e he]; rfl)⟩
            · rename_i a1 a2 g8 he
              have hru : rule' t m r = ruleL t m r := by
                unfold rule'; rw [if_neg (by simp [hnm]), if_neg hf, if_neg (by omega)]; rfl
              rw [check_at htz q2 hr (by rw [hru]; simp [Flt.z, he]), hru]; rfl
        · rename_i hnm
          have hru : rule' t i r = ⟨6, i, 5, 0⟩ := by unfold rule'; rw [if_pos hnm]
          rw [check_at htz q2 hr (by rw [hru]; simp [Flt.z]), hru]; rfl
      · repeat' (first
          | intro _
          | refine Ws ?_
          | (refine Wt ?_ ?_ <;> intro _ <;> try (exfalso; omega))
          | (refine Wu ?_ ?_ <;> intro _)
          | refine Wv ?_
          | refine Wz ?_
          | fail)
        rw [check_none htz fun j hj => q2 j (by omega)]; rfl
  · rename_i e1 e2 e3 e4 e5
    rw [check_table (t := t) (f := ⟨2, -1, 3, 0⟩) (by unfold table'; rw [if_neg (by omega), if_neg (by simp [*]), if_neg (by simp [*]), if_pos (by omega)]) (by simp [Flt.z])]
    rfl
  · rename_i e2 e3 e4
    rw [check_table (t := t) (f := ⟨(names t.vars.list 6).2, -1, 2, (names t.vars.list 6).1⟩) (by unfold table'; rw [if_neg (by omega), if_neg (by simp [*]), if_pos e4]) (by simp [Flt.z])]
    rfl
  · rename_i e3 e4
    rw [check_table (t := t) (f := ⟨(names t.states.list 8).2, -1, 1, (names t.states.list 8).1⟩) (by unfold table'; rw [if_neg (by omega), if_pos e4]) (by simp [Flt.z])]
    rfl
end Go.Vi.CYtdfhbmallnegfaa
