/-
  The reference: texts in order.
-/
import Derived.Test.YtnloddhadlpajaaCpQ
namespace Go.Vi.CYtnloddhadlpajaa
open Go.Vi Go.Proofs Go.Proofs.Ytnloddhadlpajaa
set_option linter.unusedVariables false
set_option maxHeartbeats 4000000
set_option maxRecDepth 100000
set_option linter.unusedSimpArgs false

theorem list_at {s : ByteArray} {k : Nat} {c : UInt8} (h : s[k]? = some c) : s.toList[k]? = some c := by
  rw [ByteArray.toList_eq, Array.getElem?_toList]
  by_cases hk : k < s.size
  · rw [getElem?_pos s k hk] at h; rw [Array.getElem?_eq_getElem (show k < s.data.size from hk)]; exact h
  · rw [getElem?_neg s k hk] at h; cases h
theorem list_len (s : ByteArray) : s.toList.length = s.size := by rw [ByteArray.toList_eq]; rfl
theorem drop_at' {α : Type} {l : List α} {k : Nat} {z : α} (h : l[k]? = some z) : l.drop k = z :: l.drop (k + 1) := by
  obtain ⟨hk, rfl⟩ := List.getElem?_eq_some_iff.1 h
  exact List.drop_eq_getElem_cons hk
theorem r_Less (a b : ByteArray) (ha : strOk a) (hb : strOk b) (H : Hp) : Runs Try.prog pol 32 [.val (.str a), .val (.str b)] H ([.val (.bool (ltB a b))], [], H) := by
  unfold strOk at ha hb
  have la := list_len a
  have lb := list_len b
  refine Runs.told (fn := Try.f32) (n := 37) [(0, .val (.str a)), (1, .val (.str b))] [(0, .gone 0), (1, .gone 0)] rfl Try.func32 rfl rfl (by kernel_rfl) rfl (by repeat' constructor) (by repeat' constructor) ?_
  repeat' (first
    | intro _
    | refine Ws ?_
    | (refine Wt ?_ ?_ <;> intro _ <;> try (exfalso; omega))
    | (refine Wu ?_ ?_ <;> intro _)
    | refine Wv ?_
    | refine Wz ?_
    | fail)
  refine Wx.loop [0, 1, 32, 33, 34, 35, 36] [0, 1] (fun (k, e) => [(5, .val (iv (k : Nat)))]) (fun (k, e) => []) (fun (k, e) => (k ≤ a.size ∧ k ≤ b.size ∧ e = ()) ∧ Op.bytesLess (a.toList.drop k) (b.toList.drop k) = ltB a b) (fun (k, e) => a.size - k) (0, ()) ⟨⟨Nat.zero_le _, Nat.zero_le _, rfl⟩, rfl⟩ (fun a x y hG => ?_)
  obtain ⟨k, e⟩ := a
  obtain ⟨h1, h2⟩ := hG
  dsimp only [List.cons_append, List.nil_append]
  rcases Nat.lt_or_ge k a.size with hk | hk
  · obtain ⟨c, hc⟩ := at_byte hk
    rcases Nat.lt_or_ge k b.size with hkb | hkb
    · obtain ⟨d, hd⟩ := at_byte hkb
      rw [drop_at' (list_at hc), drop_at' (list_at hd), Op.bytesLess] at h2
      repeat' (first
        | intro _
        | refine Ws ?_
        | (refine Wt ?_ ?_ <;> intro _ <;> try (exfalso; omega))
        | (refine Wu ?_ ?_ <;> intro _)
        | refine Wv ?_
        | refine Wz ?_
        | fail)
      all_goals first
        | (have e : c = d := UInt8.toNat_inj.1 (by omega)
           subst e
           exact Rd (k + 1, ()) (by dsimp only; omega) ⟨⟨by dsimp only; omega, by dsimp only; omega, rfl⟩, by rw [← h2]; simp⟩)
        | (have e : c < d := u_lt.2 (by omega)
           rw [← h2]; simp [e]; done)
        | (have e : ¬ c < d := fun h => by have := u_lt.1 h; omega
           have e2 : ¬ c = d := fun h => by subst h; omega
           rw [← h2]; simp [e, e2]; done)
        | trace_state
    · rw [show b.toList.drop k = [] from List.drop_eq_nil_of_le (by omega), drop_at' (list_at hc), Op.bytesLess] at h2
      repeat' (first
        | intro _
        | refine Ws ?_
        | (refine Wt ?_ ?_ <;> intro _ <;> try (exfalso; omega))
        | (refine Wu ?_ ?_ <;> intro _)
        | refine Wv ?_
        | refine Wz ?_
        | fail)
      all_goals first
        | (exfalso; omega)
        | (rw [← h2]; done)
        | trace_state
  · rw [show a.toList.drop k = [] from List.drop_eq_nil_of_le (by omega)] at h2
    rcases Nat.lt_or_ge k b.size with hkb | hkb
    · obtain ⟨d, hd⟩ := at_byte hkb
      rw [drop_at' (list_at hd), Op.bytesLess] at h2
      repeat' (first
        | intro _
        | refine Ws ?_
        | (refine Wt ?_ ?_ <;> intro _ <;> try (exfalso; omega))
        | (refine Wu ?_ ?_ <;> intro _)
        | refine Wv ?_
        | refine Wz ?_
        | fail)
      all_goals first
        | (exfalso; omega)
        | (rw [← h2]; done)
        | trace_state
    · rw [show b.toList.drop k = [] from List.drop_eq_nil_of_le (by omega), Op.bytesLess] at h2
      repeat' (first
        | intro _
        | refine Ws ?_
        | (refine Wt ?_ ?_ <;> intro _ <;> try (exfalso; omega))
        | (refine Wu ?_ ?_ <;> intro _)
        | refine Wv ?_
        | refine Wz ?_
        | fail)
      all_goals first
        | (exfalso; omega)
        | (rw [← h2]; done)
        | trace_state
end Go.Vi.CYtnloddhadlpajaa
