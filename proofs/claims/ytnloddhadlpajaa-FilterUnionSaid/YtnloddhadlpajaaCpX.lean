/-
  FilterChecks.
-/
import Derived.Test.YtnloddhadlpajaaCpW
import Derived.Test.YtnloddhadlpajaaCpJ
namespace Go.Vi.CYtnloddhadlpajaa
open Go.Vi Go.Proofs Go.Proofs.Ytnloddhadlpajaa
set_option linter.unusedVariables false
set_option maxHeartbeats 4000000
set_option maxRecDepth 100000
set_option linter.unusedSimpArgs false

theorem r_Same (a b : Sl ByteArray) (ha : Sl.ok a) (h : a.list = b.list) (H : Hp) : Runs Try.prog pol 13 [.val (slV VV.str a), .val (slV VV.str b)] H ([.val (.bool true)], [], H) := by
  unfold Sl.ok at ha
  have hl : b.list.length = a.list.length := by rw [h]
  refine Runs.told (fn := Try.f13) (n := 26) [(0, .val (slV VV.str a)), (1, .val (slV VV.str b))] [(0, .gone 0), (1, .gone 0)] rfl Try.func13 rfl rfl (by kernel_rfl) rfl (by repeat' constructor) (by repeat' constructor) ?_
  repeat' (first
    | intro _
    | refine Ws ?_
    | (refine Wt ?_ ?_ <;> intro _ <;> try (exfalso; omega))
    | (refine Wu ?_ ?_ <;> intro _)
    | refine Wv ?_
    | refine Wz ?_
    | fail)
  refine Wx.loop [0, 1] [0, 1] (fun (k, e) => [(5, .val (iv (k : Nat)))]) (fun (k, e) => []) (fun (k, e) => (k ≤ a.list.length ∧ e = ()) ∧ True) (fun (k, e) => a.list.length - k) (0, ()) ⟨⟨Nat.zero_le _, rfl⟩, trivial⟩ (fun a x y hG => ?_)
  obtain ⟨k, e⟩ := a
  obtain ⟨h1, h2⟩ := hG
  dsimp only [List.cons_append, List.nil_append]
  rcases Nat.lt_or_ge k a.list.length with hk | hk
  · obtain ⟨z, hz⟩ := at_some hk
    have hz2 : b.list[k]? = some z := by rw [← h]; exact hz
    repeat' (first
      | intro _
      | refine Ws ?_
      | (refine Wt ?_ ?_ <;> intro _ <;> try (exfalso; omega))
      | (refine Wu ?_ ?_ <;> intro _)
      | refine Wv ?_
      | refine Wz ?_
      | fail)
    all_goals first
      | exact Rd (k + 1, ()) (by dsimp only; omega) ⟨⟨by dsimp only; omega, rfl⟩, trivial⟩
      | (exfalso; simp at *; done)
      | trace_state
  · repeat' (first
      | intro _
      | refine Ws ?_
      | (refine Wt ?_ ?_ <;> intro _ <;> try (exfalso; omega))
      | (refine Wu ?_ ?_ <;> intro _)
      | refine Wv ?_
      | refine Wz ?_
      | fail)
    all_goals rfl
theorem right_len {l : List ByteArray} (h : rightF l = true) : l.length ≤ 8 := by
  unfold rightF chkR at h
  by_cases h8 : 8 < l.length
  · rw [if_pos h8] at h; simp at h
  · omega
theorem r_Normal (l : Sl ByteArray) (hl : Sl.ok l) (hr : rightF l.list = true) (H : Hp) : Runs Try.prog pol 11 [.val (slV VV.str l)] H ([.val (slV VV.str (slO (leastF ltB (needF l.list) l.list [])))], [], H) := by
  have h1 := r_right l hl
  rw [hr] at h1
  have h2 := r_least l (by have := right_len hr; omega)
  refine Runs.told (fn := Try.f11) (n := 8) [(0, .val (slV VV.str l))] [(0, .gone 0)] rfl Try.func11 rfl rfl (by kernel_rfl) rfl (by repeat' constructor) (by repeat' constructor) ?_
  repeat' (first
    | intro _
    | refine Ws ?_
    | (refine Wt ?_ ?_ <;> intro _ <;> try (exfalso; omega))
    | (refine Wu ?_ ?_ <;> intro _)
    | refine Wo.call0 (h1) ?_
    | refine Wo.call0 (h2) ?_
    | refine Wv ?_
    | refine Wz ?_
    | fail)
  all_goals first
    | rfl
    | trace_state
theorem r_Normal0 (l : Sl ByteArray) (hl : Sl.ok l) (hr : rightF l.list = false) (H : Hp) : Runs Try.prog pol 11 [.val (slV VV.str l)] H ([.val .nils], [], H) := by
  have h1 := r_right l hl
  rw [hr] at h1
  refine Runs.told (fn := Try.f11) (n := 8) [(0, .val (slV VV.str l))] [(0, .gone 0)] rfl Try.func11 rfl rfl (by kernel_rfl) rfl (by repeat' constructor) (by repeat' constructor) ?_
  repeat' (first
    | intro _
    | refine Ws ?_
    | (refine Wt ?_ ?_ <;> intro _ <;> try (exfalso; omega))
    | (refine Wu ?_ ?_ <;> intro _)
    | refine Wo.call0 (h1) ?_
    | refine Wv ?_
    | refine Wz ?_
    | fail)
  all_goals first
    | rfl
    | trace_state
theorem r_FilterChecks (l : Sl ByteArray) (s : ByteArray) (hl : Sl.ok l) (hs : ∀ z ∈ l.list, strOk z) (H : Hp) (hH : H = Hp.bare 0) : Runs Try.prog pol 3 [.val (slV VV.str l), .val (.str s)] H ([.val (.bool true)], [], H) := by
  subst hH
  have h1 := r_Check l hl
  have h2 := r_RCheck l hl
  have h3 := r_Has l hl s
  have h4 := r_RHas l hl s
  have h5 : hasF l.list s = true → rightF l.list = true := fun h => by
    unfold hasF at h; simp at h; exact h.1
  cases hr : rightF l.list with
  | true =>
    have hc : (chkR l.list).2 = 0 := by simpa [rightF] using hr
    have h6 := r_Normal l hl hr
    have h7 := r_Least l (by have := right_len hr; omega) hs
    rw [hc] at h1 h2
    generalize (chkR l.list).1 = c at h1 h2
    generalize hasF l.list s = b at h3 h4
    have h8 : (slO (leastF ltB (needF l.list) l.list [])).list = leastF ltB (needF l.list) l.list [] := slO_list _
    have h9 : (leastF ltB (needF l.list) l.list []).length ≤ 1000 := by
      rw [← leastB_eq (sortB_asc l.list) (sortB_perm l.list) (needF l.list)]
      have := right_len hr
      have h10 := List.length_filter_le (needF l.list) (compB (sortB l.list))
      have h11 := compB_le (sortB l.list)
      rw [sortB_len] at h11
      omega
    generalize slO (leastF ltB (needF l.list) l.list []) = n at h6 h7 h8
    have h10 : Sl.ok n := by unfold Sl.ok; rw [h8]; omega
    have h11 := r_Same n n h10 rfl
    cases b
    all_goals
      refine Runs.told (fn := Try.f3) (n := 57) [(0, .val (slV VV.str l)), (1, .val (.str s))] [(0, .gone 0), (1, .gone 0)] rfl Try.func3 rfl rfl (by kernel_rfl) rfl (by repeat' constructor) (by repeat' constructor) ?_
      repeat' (first
        | intro _
        | refine Ws ?_
        | (refine Wt ?_ ?_ <;> intro _ <;> try (exfalso; omega))
        | (refine Wu ?_ ?_ <;> intro _)
        | refine Wo.call0 (h1) ?_
        | refine Wo.call0 (h2) ?_
        | refine Wo.callAt r_awake ?_
        | refine Wo.call0 (h6) ?_
        | refine Wo.call0 (h7) ?_
        | refine Wo.call0 (h11) ?_
        | refine Wo.call0 (h3) ?_
        | refine Wo.call0 (h4) ?_
        | refine Wv ?_
        | refine Wz ?_
        | fail)
      all_goals first
        | rfl
        | trace_state
  | false =>
    have hc : (chkR l.list).2 ≠ 0 := by simpa [rightF] using hr
    have hb : hasF l.list s = false := by
      cases hb : hasF l.list s with
      | false => rfl
      | true => rw [h5 hb] at hr; cases hr
    rw [hb] at h3
    have h6 := r_Normal0 l hl hr
    generalize (chkR l.list).1 = c at h1 h2
    generalize (chkR l.list).2 = e at h1 h2 hc
    refine Runs.told (fn := Try.f3) (n := 57) [(0, .val (slV VV.str l)), (1, .val (.str s))] [(0, .gone 0), (1, .gone 0)] rfl Try.func3 rfl rfl (by kernel_rfl) rfl (by repeat' constructor) (by repeat' constructor) ?_
    repeat' (first
      | intro _
      | refine Ws ?_
      | (refine Wt ?_ ?_ <;> intro _ <;> try (exfalso; omega))
      | (refine Wu ?_ ?_ <;> intro _)
      | refine Wo.call0 (h1) ?_
      | refine Wo.call0 (h2) ?_
      | refine Wo.callAt r_awake ?_
      | refine Wo.call0 (h6) ?_
      | refine Wo.call0 (h3) ?_
      | refine Wv ?_
      | refine Wz ?_
      | fail)
    all_goals first
      | rfl
      | trace_state
end Go.Vi.CYtnloddhadlpajaa
