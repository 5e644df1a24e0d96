/-
  The reference: what is in a list, what is needed.
-/
import Derived.Test.YtnloddhadlpajaaCpG
namespace Go.Vi.CYtnloddhadlpajaa
open Go.Vi Go.Proofs Go.Proofs.Ytnloddhadlpajaa
set_option linter.unusedVariables false
set_option maxHeartbeats 4000000
set_option maxRecDepth 100000
set_option linter.unusedSimpArgs false

theorem r_has (l : Sl ByteArray) (hl : Sl.ok l) (s : ByteArray) (H : Hp) : Runs Try.prog pol 30 [.val (slV VV.str l), .val (.str s)] H ([.val (.bool (l.list.any fun x => decide (x = s)))], [], H) := by
  unfold Sl.ok at hl
  refine Runs.told (fn := Try.f30) (n := 18) [(0, .val (slV VV.str l)), (1, .val (.str s))] [(0, .gone 0), (1, .gone 0)] rfl Try.func30 rfl rfl (by kernel_rfl) rfl (by repeat' constructor) (by repeat' constructor) ?_
  repeat' (first
    | intro _
    | refine Ws ?_
    | (refine Wt ?_ ?_ <;> intro _ <;> try (exfalso; omega))
    | (refine Wu ?_ ?_ <;> intro _)
    | refine Wv ?_
    | refine Wz ?_
    | fail)
  refine Wx.loop [0, 1] [0, 1] (fun (k, e) => [(5, .val (iv (k : Nat)))]) (fun (k, e) => []) (fun (k, e) => (k ≤ l.list.length ∧ e = ()) ∧ ((l.list.drop k).any fun x => decide (x = s)) = l.list.any fun x => decide (x = s)) (fun (k, e) => l.list.length - k) (0, ()) ⟨⟨Nat.zero_le _, rfl⟩, rfl⟩ (fun a x y hG => ?_)
  obtain ⟨k, e⟩ := a
  obtain ⟨h1, h2⟩ := hG
  dsimp only [List.cons_append, List.nil_append]
  rcases Nat.lt_or_ge k l.list.length with hk | hk
  · obtain ⟨z, hz⟩ := at_some hk
    rw [drop_at hz, List.any_cons] at h2
    repeat' (first
      | intro _
      | refine Ws ?_
      | (refine Wt ?_ ?_ <;> intro _ <;> try (exfalso; omega))
      | (refine Wu ?_ ?_ <;> intro _)
      | refine Wv ?_
      | refine Wz ?_
      | fail)
    · rw [← h2]; simp [*]
    · exact Rd (k + 1, ()) (by dsimp only; omega) ⟨⟨by dsimp only; omega, rfl⟩, by rw [← h2]; simp [*]⟩
  · rw [List.drop_eq_nil_of_le hk] at h2
    repeat' (first
      | intro _
      | refine Ws ?_
      | (refine Wt ?_ ?_ <;> intro _ <;> try (exfalso; omega))
      | (refine Wu ?_ ?_ <;> intro _)
      | refine Wv ?_
      | refine Wz ?_
      | fail)
    all_goals (rw [← h2]; rfl)
def needF (l : List ByteArray) (p : ByteArray) : Bool := l.all fun q => decide (q = p) || !coversB q p
theorem r_needed (l : Sl ByteArray) (hl : Sl.ok l) (s : ByteArray) (H : Hp) : Runs Try.prog pol 31 [.val (slV VV.str l), .val (.str s)] H ([.val (.bool (needF l.list s))], [], H) := by
  unfold Sl.ok at hl
  unfold needF
  refine Runs.told (fn := Try.f31) (n := 26) [(0, .val (slV VV.str l)), (1, .val (.str s))] [(0, .gone 0), (1, .gone 0)] rfl Try.func31 rfl rfl (by kernel_rfl) rfl (by repeat' constructor) (by repeat' constructor) ?_
  repeat' (first
    | intro _
    | refine Ws ?_
    | (refine Wt ?_ ?_ <;> intro _ <;> try (exfalso; omega))
    | (refine Wu ?_ ?_ <;> intro _)
    | refine Wv ?_
    | refine Wz ?_
    | fail)
  refine Wx.loop [0, 1] [0, 1] (fun (k, e) => [(5, .val (iv (k : Nat)))]) (fun (k, e) => []) (fun (k, e) => (k ≤ l.list.length ∧ e = ()) ∧ ((l.list.drop k).all fun q => or (decide (q = s)) (!coversB q s)) = l.list.all fun q => or (decide (q = s)) (!coversB q s)) (fun (k, e) => l.list.length - k) (0, ()) ⟨⟨Nat.zero_le _, rfl⟩, rfl⟩ (fun a x y hG => ?_)
  obtain ⟨k, e⟩ := a
  obtain ⟨h1, h2⟩ := hG
  dsimp only [List.cons_append, List.nil_append]
  rcases Nat.lt_or_ge k l.list.length with hk | hk
  · obtain ⟨z, hz⟩ := at_some hk
    rw [drop_at hz, List.all_cons] at h2
    repeat' (first
      | intro _
      | refine Ws ?_
      | (refine Wt ?_ ?_ <;> intro _ <;> try (exfalso; omega))
      | (refine Wu ?_ ?_ <;> intro _)
      | refine Wo.callB (r_RCovers z s) (fun _ => ?_) (fun _ => ?_)
      | refine Wv ?_
      | refine Wz ?_
      | fail)
    all_goals first
      | exact Rd (k + 1, ()) (by dsimp only; omega) ⟨⟨by dsimp only; omega, rfl⟩, by rw [← h2]; simp [*]⟩
      | (rw [← h2]; simp [*]; done)
      | trace_state
  · rw [List.drop_eq_nil_of_le hk] at h2
    repeat' (first
      | intro _
      | refine Ws ?_
      | (refine Wt ?_ ?_ <;> intro _ <;> try (exfalso; omega))
      | (refine Wu ?_ ?_ <;> intro _)
      | refine Wv ?_
      | refine Wz ?_
      | fail)
    all_goals (rw [← h2]; rfl)
end Go.Vi.CYtnloddhadlpajaa
