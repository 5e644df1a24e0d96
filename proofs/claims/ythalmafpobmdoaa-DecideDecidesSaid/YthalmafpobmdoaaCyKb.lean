/-
  What events make of a state, all at once.
-/
import Derived.Test.YthalmafpobmdoaaCyK
namespace Go.Vi.CYthalmafpobmdoaa
open Go.Vi Go.Proofs Go.Proofs.Ythalmafpobmdoaa
set_option linter.unusedVariables false
set_option maxHeartbeats 8000000
set_option maxRecDepth 100000
set_option linter.unusedSimpArgs false

theorem r_Fold (s : Stt) (l : Sl Ev) (hs : s.ok) (hsf : Sl.fit s.vars) (hl : Sl.ok l) (he : ∀ z ∈ l.list, z.ok) (H : Hp) : Runs Try.prog pol 18 [.val (sttV s), .val (slV evV l)] H ([.val (sttV (foldS s l.list))], [], H) := by
  unfold Sl.fit at hsf
  unfold Sl.ok at hl
  have hs0 : Stt.ok ⟨s.at', s.ver, some s.vars.list⟩ := ⟨hs.1, hs.2.1, hs.2.2.1, hs.2.2.2⟩
  refine Runs.told (fn := Try.f18) (n := 28) [(0, .val (sttV s)), (1, .val (slV evV l))] [(0, .gone 0), (1, .gone 0)] rfl Try.func18 rfl rfl (by kernel_rfl) rfl (by repeat' constructor) (by repeat' constructor) ?_
  repeat' (first
    | intro _
    | refine Ws ?_
    | (refine Wt ?_ ?_ <;> intro _ <;> try (exfalso; omega))
    | (refine Wu ?_ ?_ <;> intro _)
    | refine Wv ?_
    | refine Wz ?_
    | fail)
  refine Wo.appG (by8 := 8) (fun g2 hne => ?_) (fun hem => ?_) ⟨hsf, by omega⟩
  · refine Wo.buildSt ?_
    repeat' (first
      | intro _
      | refine Ws ?_
      | (refine Wt ?_ ?_ <;> intro _ <;> try (exfalso; omega))
      | (refine Wu ?_ ?_ <;> intro _)
      | refine Wv ?_
      | refine Wz ?_
      | fail)
    rename_i g5
    refine Wx.loop [4, 5, 17, 18, 27] [0, 1, 2, 4, 12, 15] (fun (k, u) => [(19, .val (iv (k : Nat)))]) (fun (k, u) => [(5, .box g5 [.val (iv u.at'), .val (iv u.ver), .val (slV iv u.vars)] true)]) (fun (k, u) => k ≤ l.list.length ∧ u = (l.list.take k).foldl applyS ⟨s.at', s.ver, some s.vars.list⟩) (fun (k, u) => l.list.length - k) (0, (⟨s.at', s.ver, some s.vars.list⟩ : Stt)) ⟨Nat.zero_le _, rfl⟩ (fun a x y hG => ?_)
    obtain ⟨k, u⟩ := a
    obtain ⟨h1, h2⟩ := hG
    dsimp only [List.cons_append, List.nil_append]
    have huk : u.ok := by rw [h2]; exact foldl_ok (fun s e => applyS_ok) hs0 fun z hz => he z (List.mem_of_mem_take hz)
    rcases Nat.lt_or_ge k l.list.length with hk | hk
    · obtain ⟨z, hz⟩ := at_some hk
      repeat' (first
        | intro _
        | refine Ws ?_
        | (refine Wt ?_ ?_ <;> intro _ <;> try (exfalso; omega))
        | (refine Wu ?_ ?_ <;> intro _)
        | refine Wo.call0 (r_Apply _ _ huk (he _ (List.mem_of_getElem? hz))) ?_
        | refine Wv ?_
        | refine Wz ?_
        | fail)
      exact Rd (k + 1, applyS u z) (by dsimp only; omega) ⟨by dsimp only; omega, by dsimp only; rw [fold_take hz, ← h2]⟩
    · repeat' (first
        | intro _
        | refine Ws ?_
        | (refine Wt ?_ ?_ <;> intro _ <;> try (exfalso; omega))
        | (refine Wu ?_ ?_ <;> intro _)
        | refine Wv ?_
        | refine Wz ?_
        | fail)
      have hkk : k = l.list.length := by omega
      subst hkk
      rw [List.take_length] at h2
      rw [h2]; rfl
  · refine Wo.buildFl ?_
    repeat' (first
      | intro _
      | refine Ws ?_
      | (refine Wt ?_ ?_ <;> intro _ <;> try (exfalso; omega))
      | (refine Wu ?_ ?_ <;> intro _)
      | refine Wv ?_
      | refine Wz ?_
      | fail)
    rename_i g5
    refine Wx.loop [4, 5, 17, 18, 27] [0, 1, 2, 4, 12, 15] (fun (k, u) => [(19, .val (iv (k : Nat)))]) (fun (k, u) => [(5, .box g5 [.val (iv u.at'), .val (iv u.ver), .val (slV iv u.vars)] true)]) (fun (k, u) => k ≤ l.list.length ∧ u = (l.list.take k).foldl applyS ⟨s.at', s.ver, some s.vars.list⟩) (fun (k, u) => l.list.length - k) (0, (⟨s.at', s.ver, some []⟩ : Stt)) ⟨Nat.zero_le _, by rw [hem]; rfl⟩ (fun a x y hG => ?_)
    obtain ⟨k, u⟩ := a
    obtain ⟨h1, h2⟩ := hG
    dsimp only [List.cons_append, List.nil_append]
    have huk : u.ok := by rw [h2]; exact foldl_ok (fun s e => applyS_ok) hs0 fun z hz => he z (List.mem_of_mem_take hz)
    rcases Nat.lt_or_ge k l.list.length with hk | hk
    · obtain ⟨z, hz⟩ := at_some hk
      repeat' (first
        | intro _
        | refine Ws ?_
        | (refine Wt ?_ ?_ <;> intro _ <;> try (exfalso; omega))
        | (refine Wu ?_ ?_ <;> intro _)
        | refine Wo.call0 (r_Apply _ _ huk (he _ (List.mem_of_getElem? hz))) ?_
        | refine Wv ?_
        | refine Wz ?_
        | fail)
      exact Rd (k + 1, applyS u z) (by dsimp only; omega) ⟨by dsimp only; omega, by dsimp only; rw [fold_take hz, ← h2]⟩
    · repeat' (first
        | intro _
        | refine Ws ?_
        | (refine Wt ?_ ?_ <;> intro _ <;> try (exfalso; omega))
        | (refine Wu ?_ ?_ <;> intro _)
        | refine Wv ?_
        | refine Wz ?_
        | fail)
      have hkk : k = l.list.length := by omega
      subst hkk
      rw [List.take_length] at h2
      rw [h2]; rfl
theorem r_RFold (s : Stt) (l : Sl Ev) (hs : s.ok) (hl : Sl.ok l) (he : ∀ z ∈ l.list, z.ok) (H : Hp) : Runs Try.prog pol 19 [.val (sttV s), .val (slV evV l)] H ([.val (sttV (foldR s l.list))], [], H) := by
  unfold Sl.ok at hl
  refine Runs.told (fn := Try.f19) (n := 19) [(0, .val (sttV s)), (1, .val (slV evV l))] [(0, .gone 0), (1, .gone 0)] rfl Try.func19 rfl rfl (by kernel_rfl) rfl (by repeat' constructor) (by repeat' constructor) ?_
  repeat' (first
    | intro _
    | refine Ws ?_
    | (refine Wt ?_ ?_ <;> intro _ <;> try (exfalso; omega))
    | (refine Wu ?_ ?_ <;> intro _)
    | refine Wv ?_
    | refine Wz ?_
    | fail)
  rename_i g2 g4
  refine Wx.loop [1, 2, 4, 18] [0, 1, 4] (fun (k, u) => [(5, .val (iv (k : Nat)))]) (fun (k, u) => [(2, .box g2 [.val (iv u.at'), .val (iv u.ver), .val (slV iv u.vars)] true)]) (fun (k, u) => k ≤ l.list.length ∧ u = (l.list.take k).foldl applyR s) (fun (k, u) => l.list.length - k) (0, s) ⟨Nat.zero_le _, rfl⟩ (fun a x y hG => ?_)
  obtain ⟨k, u⟩ := a
  obtain ⟨h1, h2⟩ := hG
  dsimp only [List.cons_append, List.nil_append]
  have huk : u.ok := by rw [h2]; exact foldl_ok (fun s e => applyR_ok) hs fun z hz => he z (List.mem_of_mem_take hz)
  rcases Nat.lt_or_ge k l.list.length with hk | hk
  · obtain ⟨z, hz⟩ := at_some hk
    repeat' (first
      | intro _
      | refine Ws ?_
      | (refine Wt ?_ ?_ <;> intro _ <;> try (exfalso; omega))
      | (refine Wu ?_ ?_ <;> intro _)
      | refine Wo.call0 (r_RApply _ _ huk) ?_
      | refine Wv ?_
      | refine Wz ?_
      | fail)
    exact Rd (k + 1, applyR u z) (by dsimp only; omega) ⟨by dsimp only; omega, by dsimp only; rw [fold_take hz, ← h2]⟩
  · repeat' (first
      | intro _
      | refine Ws ?_
      | (refine Wt ?_ ?_ <;> intro _ <;> try (exfalso; omega))
      | (refine Wu ?_ ?_ <;> intro _)
      | refine Wv ?_
      | refine Wz ?_
      | fail)
    have hkk : k = l.list.length := by omega
    subst hkk
    rw [List.take_length] at h2
    rw [h2]; rfl
end Go.Vi.CYthalmafpobmdoaa
