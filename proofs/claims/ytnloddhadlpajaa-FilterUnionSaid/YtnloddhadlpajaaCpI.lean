/-
  The reference: which filters cover one another, which meet.
-/
import Derived.Test.YtnloddhadlpajaaCpH
namespace Go.Vi.CYtnloddhadlpajaa
open Go.Vi Go.Proofs Go.Proofs.Ytnloddhadlpajaa
set_option linter.unusedVariables false
set_option maxHeartbeats 4000000
set_option maxRecDepth 100000
set_option linter.unusedSimpArgs false

theorem r_RFCovers (a b : Sl ByteArray) (ha : Sl.ok a) (hb : Sl.ok b) (H : Hp) : Runs Try.prog pol 18 [.val (slV VV.str a), .val (slV VV.str b)] H ([.val (.bool (coversF a.list b.list))], [], H) := by
  have ha' := ha
  have hb' := hb
  unfold Sl.ok at ha hb
  refine Runs.told (fn := Try.f18) (n := 40) [(0, .val (slV VV.str a)), (1, .val (slV VV.str b))] [(0, .gone 0), (1, .gone 0)] rfl Try.func18 rfl rfl (by kernel_rfl) rfl (by repeat' constructor) (by repeat' constructor) ?_
  repeat' (first
    | intro _
    | refine Ws ?_
    | (refine Wt ?_ ?_ <;> intro _ <;> try (exfalso; omega))
    | (refine Wu ?_ ?_ <;> intro _)
    | refine Wv ?_
    | refine Wz ?_
    | fail)
  refine Wx.loop [0, 1, 34, 35, 36, 37, 38, 39] [0, 1, 35, 38] (fun (i, e) => [(5, .val (iv (i : Nat)))]) (fun (i, e) => []) (fun (i, e) => (i ≤ b.list.length ∧ e = ()) ∧ ((b.list.drop i).all fun q => a.list.any fun p => coversB p q) = b.list.all fun q => a.list.any fun p => coversB p q) (fun (i, e) => b.list.length - i) (0, ()) ⟨⟨Nat.zero_le _, rfl⟩, rfl⟩ (fun a x y hG => ?_)
  obtain ⟨i, e⟩ := a
  obtain ⟨h1, h2⟩ := hG
  dsimp only [List.cons_append, List.nil_append]
  rcases Nat.lt_or_ge i b.list.length with hi | hi
  · obtain ⟨z, hz⟩ := at_some hi
    rw [drop_at hz, List.all_cons] at h2
    repeat' (first
      | intro _
      | refine Ws ?_
      | (refine Wt ?_ ?_ <;> intro _ <;> try (exfalso; omega))
      | (refine Wu ?_ ?_ <;> intro _)
      | refine Wv ?_
      | refine Wz ?_
      | fail)
    refine Wx.loop [0, 1, 4, 5, 8, 9, 10, 11, 12, 13, 32, 33, 34, 35, 36, 37, 38, 39] [0, 1, 35, 38] (fun (k, e2) => [(7, .val (iv (k : Nat))), (6, .val (.bool e2))]) (fun (k, e2) => []) (fun (k, e2) => (k ≤ a.list.length) ∧ (or e2 ((a.list.drop k).any fun p => coversB p z)) = a.list.any fun p => coversB p z) (fun (k, e2) => a.list.length - k) (0, false) ⟨Nat.zero_le _, rfl⟩ (fun a x y hG => ?_)
    obtain ⟨k, e2⟩ := a
    obtain ⟨g1, g2⟩ := hG
    dsimp only [List.cons_append, List.nil_append]
    rcases Nat.lt_or_ge k a.list.length with hk | hk
    · obtain ⟨v, hv⟩ := at_some hk
      rw [drop_at hv, List.any_cons] at g2
      cases e2
      · have hRz := r_RCovers v z
        repeat' (first
          | intro _
          | refine Ws ?_
          | (refine Wt ?_ ?_ <;> intro _ <;> try (exfalso; omega))
          | (refine Wu ?_ ?_ <;> intro _)
          | refine Wo.call0 (hRz) ?_
          | refine Wv ?_
          | refine Wz ?_
          | fail)
        exact Rd (k + 1, coversB v z) (by dsimp only; omega) ⟨by dsimp only; omega, by rw [← g2]; rfl⟩
      · repeat' (first
          | intro _
          | refine Ws ?_
          | (refine Wt ?_ ?_ <;> intro _ <;> try (exfalso; omega))
          | (refine Wu ?_ ?_ <;> intro _)
          | refine Wv ?_
          | refine Wz ?_
          | fail)
        exact Rd (k + 1, true) (by dsimp only; omega) ⟨by dsimp only; omega, by rw [← g2]; rfl⟩
    · rw [List.drop_eq_nil_of_le hk, List.any_nil, Bool.or_false] at g2
      rw [← g2] at h2
      cases e2
      · repeat' (first
          | intro _
          | refine Ws ?_
          | (refine Wt ?_ ?_ <;> intro _ <;> try (exfalso; omega))
          | (refine Wu ?_ ?_ <;> intro _)
          | refine Wv ?_
          | refine Wz ?_
          | fail)
        all_goals (unfold coversF; rw [← h2]; simp; done)
      · repeat' (first
          | intro _
          | refine Ws ?_
          | (refine Wt ?_ ?_ <;> intro _ <;> try (exfalso; omega))
          | (refine Wu ?_ ?_ <;> intro _)
          | refine Wv ?_
          | refine Wz ?_
          | fail)
        exact Rd (i + 1, ()) (by dsimp only; omega) ⟨⟨by dsimp only; omega, rfl⟩, by rw [← h2]; rfl⟩
  · rw [List.drop_eq_nil_of_le hi, List.all_nil] at h2
    repeat' (first
      | intro _
      | refine Ws ?_
      | (refine Wt ?_ ?_ <;> intro _ <;> try (exfalso; omega))
      | (refine Wu ?_ ?_ <;> intro _)
      | refine Wo.callB (r_RRight a ha') (fun _ => ?_) (fun _ => ?_)
      | refine Wo.callB (r_RRight b hb') (fun _ => ?_) (fun _ => ?_)
      | refine Wv ?_
      | refine Wz ?_
      | fail)
    all_goals (unfold coversF; rw [← h2]; clear h2; simp only [*]; rfl)
theorem any_swap {α β : Type} (R : α → β → Bool) (b : List β) (a : List α) : (b.any fun q => a.any fun p => R p q) = a.any fun p => b.any fun q => R p q := by
  rw [Bool.eq_iff_iff]
  simp only [List.any_eq_true]
  exact ⟨fun ⟨q, hq, p, hp, h⟩ => ⟨p, hp, q, hq, h⟩, fun ⟨p, hp, q, hq, h⟩ => ⟨q, hq, p, hp, h⟩⟩
theorem r_RFMeet (a b : Sl ByteArray) (ha : Sl.ok a) (hb : Sl.ok b) (H : Hp) : Runs Try.prog pol 20 [.val (slV VV.str a), .val (slV VV.str b)] H ([.val (.bool (meetFF a.list b.list))], [], H) := by
  have ha' := ha
  have hb' := hb
  unfold Sl.ok at ha hb
  unfold meetFF
  rw [← any_swap]
  refine Runs.told (fn := Try.f20) (n := 41) [(0, .val (slV VV.str a)), (1, .val (slV VV.str b))] [(0, .gone 0), (1, .gone 0)] rfl Try.func20 rfl rfl (by kernel_rfl) rfl (by repeat' constructor) (by repeat' constructor) ?_
  repeat' (first
    | intro _
    | refine Ws ?_
    | (refine Wt ?_ ?_ <;> intro _ <;> try (exfalso; omega))
    | (refine Wu ?_ ?_ <;> intro _)
    | refine Wv ?_
    | refine Wz ?_
    | fail)
  refine Wx.loop [0, 1, 4, 32, 33, 34, 35, 36, 37, 38, 39, 40] [0, 1, 35, 39] (fun (i, e) => [(6, .val (iv (i : Nat))), (5, .val (.bool e))]) (fun (i, e) => []) (fun (i, e) => (i ≤ b.list.length) ∧ (or e ((b.list.drop i).any fun q => a.list.any fun p => meetsB p q)) = b.list.any fun q => a.list.any fun p => meetsB p q) (fun (i, e) => b.list.length - i) (0, false) ⟨Nat.zero_le _, rfl⟩ (fun a x y hG => ?_)
  obtain ⟨i, e⟩ := a
  obtain ⟨h1, h2⟩ := hG
  dsimp only [List.cons_append, List.nil_append]
  rcases Nat.lt_or_ge i b.list.length with hi | hi
  · obtain ⟨z, hz⟩ := at_some hi
    rw [drop_at hz, List.any_cons] at h2
    repeat' (first
      | intro _
      | refine Ws ?_
      | (refine Wt ?_ ?_ <;> intro _ <;> try (exfalso; omega))
      | (refine Wu ?_ ?_ <;> intro _)
      | refine Wv ?_
      | refine Wz ?_
      | fail)
    refine Wx.loop [0, 1, 4, 6, 8, 9, 10, 11, 12, 13, 32, 33, 34, 35, 36, 37, 38, 39, 40] [0, 1, 35, 39] (fun (k, e2) => [(7, .val (iv (k : Nat))), (5, .val (.bool e2))]) (fun (k, e2) => []) (fun (k, e2) => (k ≤ a.list.length) ∧ (or e2 ((a.list.drop k).any fun p => meetsB p z)) = or e (a.list.any fun p => meetsB p z)) (fun (k, e2) => a.list.length - k) (0, e) ⟨Nat.zero_le _, rfl⟩ (fun a x y hG => ?_)
    obtain ⟨k, e2⟩ := a
    obtain ⟨g1, g2⟩ := hG
    dsimp only [List.cons_append, List.nil_append]
    rcases Nat.lt_or_ge k a.list.length with hk | hk
    · obtain ⟨v, hv⟩ := at_some hk
      rw [drop_at hv, List.any_cons] at g2
      cases e2
      · have hRz := r_RMeets v z
        repeat' (first
          | intro _
          | refine Ws ?_
          | (refine Wt ?_ ?_ <;> intro _ <;> try (exfalso; omega))
          | (refine Wu ?_ ?_ <;> intro _)
          | refine Wo.call0 (hRz) ?_
          | refine Wv ?_
          | refine Wz ?_
          | fail)
        exact Rd (k + 1, meetsB v z) (by dsimp only; omega) ⟨by dsimp only; omega, by rw [← g2]; rfl⟩
      · repeat' (first
          | intro _
          | refine Ws ?_
          | (refine Wt ?_ ?_ <;> intro _ <;> try (exfalso; omega))
          | (refine Wu ?_ ?_ <;> intro _)
          | refine Wv ?_
          | refine Wz ?_
          | fail)
        exact Rd (k + 1, true) (by dsimp only; omega) ⟨by dsimp only; omega, by rw [← g2]; rfl⟩
    · rw [List.drop_eq_nil_of_le hk, List.any_nil, Bool.or_false] at g2
      repeat' (first
        | intro _
        | refine Ws ?_
        | (refine Wt ?_ ?_ <;> intro _ <;> try (exfalso; omega))
        | (refine Wu ?_ ?_ <;> intro _)
        | refine Wv ?_
        | refine Wz ?_
        | fail)
      exact Rd (i + 1, e2) (by dsimp only; omega) ⟨by dsimp only; omega, by rw [← h2, ← Bool.or_assoc, ← g2]⟩
  · rw [List.drop_eq_nil_of_le hi, List.any_nil, Bool.or_false] at h2
    rw [← h2]
    clear h2
    cases e
    · repeat' (first
        | intro _
        | refine Ws ?_
        | (refine Wt ?_ ?_ <;> intro _ <;> try (exfalso; omega))
        | (refine Wu ?_ ?_ <;> intro _)
        | refine Wv ?_
        | refine Wz ?_
        | fail)
      all_goals (simp; done)
    · repeat' (first
        | intro _
        | refine Ws ?_
        | (refine Wt ?_ ?_ <;> intro _ <;> try (exfalso; omega))
        | (refine Wu ?_ ?_ <;> intro _)
        | refine Wo.callB (r_RRight a ha') (fun _ => ?_) (fun _ => ?_)
        | refine Wo.callB (r_RRight b hb') (fun _ => ?_) (fun _ => ?_)
        | refine Wv ?_
        | refine Wz ?_
        | fail)
      all_goals (simp only [*]; rfl)
end Go.Vi.CYtnloddhadlpajaa
