/-
  Numbers in decide and in the reference, and rows of numbers side by side: the program.
-/
import Derived.Test.YthalmafpobmdoaaCyB
namespace Go.Vi.CYthalmafpobmdoaa
open Go.Vi Go.Proofs Go.Proofs.Ythalmafpobmdoaa
set_option linter.unusedVariables false
set_option maxHeartbeats 8000000
set_option maxRecDepth 100000
set_option linter.unusedSimpArgs false

theorem r_dvalue (n : Int) (H : Hp) : Runs Try.prog pol 50 [.val (iv n)] H ([.val (.bool (valueOk n))], [], H) := by
  refine Runs.told (fn := Try.f50) (n := 9) [(0, .val (iv n))] [(0, .gone 0)] rfl Try.func50 rfl rfl (by kernel_rfl) rfl (by repeat' constructor) (by repeat' constructor) ?_
  repeat' (first
    | intro _
    | refine Ws ?_
    | (refine Wt ?_ ?_ <;> intro _ <;> try (exfalso; omega))
    | (refine Wu ?_ ?_ <;> intro _)
    | refine Wv ?_
    | refine Wz ?_
    | fail)
  all_goals (simp [valueOk, *])
theorem r_dvalues (s : Sl Int) (hs : Sl.ok s) (H : Hp) : Runs Try.prog pol 33 [.val (slV iv s)] H ([.val (.bool (valuesOk s.list))], [], H) := by
  unfold Sl.ok at hs
  refine Runs.told (fn := Try.f33) (n := 15) [(0, .val (slV iv s))] [(0, .gone 0)] rfl Try.func33 rfl rfl (by kernel_rfl) rfl (by repeat' constructor) (by repeat' constructor) ?_
  repeat' (first
    | intro _
    | refine Ws ?_
    | (refine Wt ?_ ?_ <;> intro _ <;> try (exfalso; omega))
    | (refine Wu ?_ ?_ <;> intro _)
    | refine Wv ?_
    | refine Wz ?_
    | fail)
  refine Wx.loop [5, 6] [0] (fun k => [(7, .val (iv (k : Nat)))]) (fun k => []) (fun k => k ≤ s.list.length ∧ ∀ j, j < k → valBad s.list j = none) (fun k => s.list.length - k) 0 ⟨Nat.zero_le _, fun _ h => by omega⟩ (fun k x y hG => ?_)
  obtain ⟨h1, h2⟩ := hG
  dsimp only [List.cons_append, List.nil_append]
  rcases Nat.lt_or_ge k s.list.length with hk | hk
  · obtain ⟨z, hz⟩ := at_some hk
    repeat' (first
      | intro _
      | refine Ws ?_
      | (refine Wt ?_ ?_ <;> intro _ <;> try (exfalso; omega))
      | (refine Wu ?_ ?_ <;> intro _)
      | refine Wo.callB (r_dvalue _) (fun _ => ?_) (fun _ => ?_)
      | refine Wv ?_
      | refine Wz ?_
      | fail)
    · exact Rd (k + 1) (by omega) ⟨by omega, none_succ h2 (by simp only [valBad, hz]; rw [if_pos (by assumption)])⟩
    · have hb := scan_found (p := valBad s.list) (b := ()) h2 (by simp only [valBad, hz]; rw [if_neg (by simp [*])]) (n := s.list.length) (by omega)
      simp [valuesOk, hb]
  · repeat' (first
      | intro _
      | refine Ws ?_
      | (refine Wt ?_ ?_ <;> intro _ <;> try (exfalso; omega))
      | (refine Wu ?_ ?_ <;> intro _)
      | refine Wv ?_
      | refine Wz ?_
      | fail)
    have hb := scan_none (p := valBad s.list) (n := s.list.length) (fun j hj => h2 j (by omega))
    simp [valuesOk, hb]
theorem r_all7 (s : Sl Int) (hs : Sl.ok s) (H : Hp) : Runs Try.prog pol 28 [.val (slV iv s)] H ([.val (.bool (valuesOk s.list))], [], H) := by
  unfold Sl.ok at hs
  refine Runs.told (fn := Try.f28) (n := 16) [(0, .val (slV iv s))] [(0, .gone 0)] rfl Try.func28 rfl rfl (by kernel_rfl) rfl (by repeat' constructor) (by repeat' constructor) ?_
  repeat' (first
    | intro _
    | refine Ws ?_
    | (refine Wt ?_ ?_ <;> intro _ <;> try (exfalso; omega))
    | (refine Wu ?_ ?_ <;> intro _)
    | refine Wv ?_
    | refine Wz ?_
    | fail)
  refine Wx.loop [0] [0] (fun k => [(3, .val (iv (k : Nat)))]) (fun k => []) (fun k => k ≤ s.list.length ∧ ∀ j, j < k → valBad s.list j = none) (fun k => s.list.length - k) 0 ⟨Nat.zero_le _, fun _ h => by omega⟩ (fun k x y hG => ?_)
  obtain ⟨h1, h2⟩ := hG
  dsimp only [List.cons_append, List.nil_append]
  rcases Nat.lt_or_ge k s.list.length with hk | hk
  · obtain ⟨z, hz⟩ := at_some hk
    repeat' (first
      | intro _
      | refine Ws ?_
      | (refine Wt ?_ ?_ <;> intro _ <;> try (exfalso; omega))
      | (refine Wu ?_ ?_ <;> intro _)
      | refine Wo.callB (r_Value3 _) (fun _ => ?_) (fun _ => ?_)
      | refine Wv ?_
      | refine Wz ?_
      | fail)
    · exact Rd (k + 1) (by omega) ⟨by omega, none_succ h2 (by simp only [valBad, hz]; rw [if_pos (by assumption)])⟩
    · have hb := scan_found (p := valBad s.list) (b := ()) h2 (by simp only [valBad, hz]; rw [if_neg (by simp [*])]) (n := s.list.length) (by omega)
      simp [valuesOk, hb]
  · repeat' (first
      | intro _
      | refine Ws ?_
      | (refine Wt ?_ ?_ <;> intro _ <;> try (exfalso; omega))
      | (refine Wu ?_ ?_ <;> intro _)
      | refine Wv ?_
      | refine Wz ?_
      | fail)
    have hb := scan_none (p := valBad s.list) (n := s.list.length) (fun j hj => h2 j (by omega))
    simp [valuesOk, hb]
theorem r_one3 (b : Bool) (H : Hp) : Runs Try.prog pol 59 [.val (.bool b)] H ([.val (iv (tr b))], [], H) := by
  cases b
  · refine Runs.told (fn := Try.f59) (n := 4) [(0, .val (.bool false))] [(0, .gone 0)] rfl Try.func59 rfl rfl (by kernel_rfl) rfl (by repeat' constructor) (by repeat' constructor) ?_
    repeat' (first
      | intro _
      | refine Ws ?_
      | (refine Wt ?_ ?_ <;> intro _ <;> try (exfalso; omega))
      | (refine Wu ?_ ?_ <;> intro _)
      | refine Wv ?_
      | refine Wz ?_
      | fail)
    rfl
  · refine Runs.told (fn := Try.f59) (n := 4) [(0, .val (.bool true))] [(0, .gone 0)] rfl Try.func59 rfl rfl (by kernel_rfl) rfl (by repeat' constructor) (by repeat' constructor) ?_
    repeat' (first
      | intro _
      | refine Ws ?_
      | (refine Wt ?_ ?_ <;> intro _ <;> try (exfalso; omega))
      | (refine Wu ?_ ?_ <;> intro _)
      | refine Wv ?_
      | refine Wz ?_
      | fail)
    rfl
theorem same_pre {α : Type} {a b : List α} {k : Nat} (h : ∀ j, j < k → a[j]? = b[j]?) (ha : a.length ≤ k) (hl : a.length = b.length) : a = b := by
  apply List.ext_getElem? 
  intro i
  rcases Nat.lt_or_ge i k with hi | hi
  · exact h i hi
  · rw [List.getElem?_eq_none (by omega), List.getElem?_eq_none (by omega)]
/-- two rows of numbers are held together -/
theorem r_IntsD (s s' : Sl Int) (hs : Sl.ok s) (hs' : Sl.ok s') (H : Hp) : Runs Try.prog pol 27 [.val (slV iv s), .val (slV iv s')] H ([.val (.bool (decide (s.list = s'.list)))], [], H) := by
  unfold Sl.ok at hs hs'
  by_cases hl : s.list.length = s'.list.length
  · refine Runs.told (fn := Try.f27) (n := 26) [(0, .val (slV iv s)), (1, .val (slV iv s'))] [(0, .gone 0), (1, .gone 0)] rfl Try.func27 rfl rfl (by kernel_rfl) rfl (by repeat' constructor) (by repeat' constructor) ?_
    repeat' (first
      | intro _
      | refine Ws ?_
      | (refine Wt ?_ ?_ <;> intro _ <;> try (exfalso; omega))
      | (refine Wu ?_ ?_ <;> intro _)
      | refine Wv ?_
      | refine Wz ?_
      | fail)
    all_goals first
      | (exfalso; omega)
      | skip
    refine Wx.loop [0, 1] [0, 1] (fun k => [(5, .val (iv (k : Nat)))]) (fun k => []) (fun k => k ≤ s.list.length ∧ ∀ j, j < k → s.list[j]? = s'.list[j]?) (fun k => s.list.length - k) 0 ⟨Nat.zero_le _, fun _ h => by omega⟩ (fun k x y hG => ?_)
    obtain ⟨h1, h2⟩ := hG
    dsimp only [List.cons_append, List.nil_append]
    rcases Nat.lt_or_ge k s.list.length with hk | hk
    · obtain ⟨z, hz⟩ := at_some hk
      obtain ⟨z', hz'⟩ := at_some (show k < s'.list.length by omega)
      by_cases e : z = z'
      · subst e
        repeat' (first
          | intro _
          | refine Ws ?_
          | (refine Wt ?_ ?_ <;> intro _ <;> try (exfalso; omega))
          | (refine Wu ?_ ?_ <;> intro _)
          | refine Wv ?_
          | refine Wz ?_
          | fail)
        exact Rd (k + 1) (by omega) ⟨by omega, fun j hj => by
          rcases Nat.lt_or_ge j k with h | h
          · exact h2 j h
          · have : j = k := by omega
            subst this; rw [hz, hz']⟩
      · repeat' (first
          | intro _
          | refine Ws ?_
          | (refine Wt ?_ ?_ <;> intro _ <;> try (exfalso; omega))
          | (refine Wu ?_ ?_ <;> intro _)
          | refine Wv ?_
          | refine Wz ?_
          | fail)
        have : ¬ s.list = s'.list := fun h => e (by rw [h, hz'] at hz; exact (Option.some.inj hz).symm)
        simp [this]
    · repeat' (first
        | intro _
        | refine Ws ?_
        | (refine Wt ?_ ?_ <;> intro _ <;> try (exfalso; omega))
        | (refine Wu ?_ ?_ <;> intro _)
        | refine Wv ?_
        | refine Wz ?_
        | fail)
      have : s.list = s'.list := same_pre (k := k) (fun j hj => h2 j hj) (by omega) hl
      simp [this]
  · refine Runs.told (fn := Try.f27) (n := 26) [(0, .val (slV iv s)), (1, .val (slV iv s'))] [(0, .gone 0), (1, .gone 0)] rfl Try.func27 rfl rfl (by kernel_rfl) rfl (by repeat' constructor) (by repeat' constructor) ?_
    repeat' (first
      | intro _
      | refine Ws ?_
      | (refine Wt ?_ ?_ <;> intro _ <;> try (exfalso; omega))
      | (refine Wu ?_ ?_ <;> intro _)
      | refine Wv ?_
      | refine Wz ?_
      | fail)
    have : ¬ s.list = s'.list := fun h => hl (by rw [h])
    simp [this]
end Go.Vi.CYthalmafpobmdoaa
