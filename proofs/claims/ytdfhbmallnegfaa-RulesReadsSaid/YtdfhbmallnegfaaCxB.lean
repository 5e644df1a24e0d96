/-
  What names may be.
-/
import Derived.Test.YtdfhbmallnegfaaCxA
namespace Go.Vi.CYtdfhbmallnegfaa
open Go.Vi Go.Proofs Go.Proofs.Ytdfhbmallnegfaa
set_option linter.unusedVariables false
set_option maxHeartbeats 8000000
set_option maxRecDepth 100000

theorem r_Name (s : ByteArray) (H : Hp) : Runs Try.prog pol 47 [.val (.str s)] H ([.val (.bool (nameOk s))], [], H) := by
  have h0 := resv_pos s
  refine Runs.told (fn := Try.f47) (n := 47) [(0, .val (.str s))] [(0, .gone 0)] rfl Try.func47 rfl rfl (by kernel_rfl) rfl (by repeat' constructor) (by repeat' constructor) ?_
  repeat' (first
    | intro _
    | refine Ws ?_
    | (refine Wt ?_ ?_ <;> intro _ <;> try (exfalso; omega))
    | (refine Wu ?_ ?_ <;> intro _)
    | refine Wo.callB (r_letter _) (fun _ => ?_) (fun _ => ?_)
    | refine Wo.call0 (r_reserved _) ?_
    | refine Wv ?_
    | refine Wz ?_
    | fail)
  all_goals first | (simp_all [nameOk] <;> omega) | skip
  refine Wx.loop [0, 24] [0, 15, 20] (fun k => [(25, .val (iv (k : Nat)))]) (fun k => []) (fun k => k ≤ s.size ∧ ∀ j, j < k → chBad s j = none) (fun k => s.size - k) 0 ⟨Nat.zero_le _, fun _ h => by omega⟩ (fun k x y hG => ?_)
  obtain ⟨h1, h2⟩ := hG
  dsimp only [List.cons_append, List.nil_append]
  repeat' (first
    | intro _
    | refine Ws ?_
    | (refine Wt ?_ ?_ <;> intro _ <;> try (exfalso; omega))
    | (refine Wu ?_ ?_ <;> intro _)
    | refine Wo.callB (r_letter _) (fun _ => ?_) (fun _ => ?_)
    | refine Wo.callB (r_digit _) (fun _ => ?_) (fun _ => ?_)
    | refine Wv ?_
    | refine Wz ?_
    | fail)
  all_goals first
    | (refine Rd (k + 1) (by omega) ⟨by omega, none_succ h2 ?_⟩; simp_all [chBad, chOk]; done)
    | (have hk := scan_found (p := chBad s) (b := ()) h2 (by simp_all [chBad, chOk]) (n := s.size) (by omega); simp [nameOk, hk]; done)
    | (have hk := scan_none (p := chBad s) (n := s.size) (fun j hj => h2 j (by omega)); simp_all [nameOk]; omega)
theorem r_RName (s : ByteArray) (H : Hp) : Runs Try.prog pol 32 [.val (.str s)] H ([.val (.bool (nameOk s))], [], H) := by
  refine Runs.told (fn := Try.f32) (n := 54) [(0, .val (.str s))] [(0, .gone 0)] rfl Try.func32 rfl rfl (by kernel_rfl) rfl (by repeat' constructor) (by repeat' constructor) ?_
  repeat' (first
    | intro _
    | refine Ws ?_
    | (refine Wt ?_ ?_ <;> intro _ <;> try (exfalso; omega))
    | (refine Wu ?_ ?_ <;> intro _)
    | refine Wo.callB (r_Rletter _) (fun _ => ?_) (fun _ => ?_)
    | refine Wv ?_
    | refine Wz ?_
    | fail)
  all_goals first | (simp_all [nameOk, resv, wMin, wMax, wIf] <;> omega) | skip
  refine Wx.loop [0] [0, 27] (fun k => [(3, .val (iv (k : Nat)))]) (fun k => []) (fun k => k ≤ s.size ∧ ∀ j, j < k → chBad s j = none) (fun k => s.size - k) 0 ⟨Nat.zero_le _, fun _ h => by omega⟩ (fun k x y hG => ?_)
  obtain ⟨h1, h2⟩ := hG
  dsimp only [List.cons_append, List.nil_append]
  repeat' (first
    | intro _
    | refine Ws ?_
    | (refine Wt ?_ ?_ <;> intro _ <;> try (exfalso; omega))
    | (refine Wu ?_ ?_ <;> intro _)
    | refine Wo.callB (r_Rletter _) (fun _ => ?_) (fun _ => ?_)
    | refine Wo.callB (r_Rdigit _) (fun _ => ?_) (fun _ => ?_)
    | refine Wv ?_
    | refine Wz ?_
    | fail)
  all_goals first
    | (refine Rd (k + 1) (by omega) ⟨by omega, none_succ h2 ?_⟩; simp_all [chBad, chOk]; done)
    | (have hk := scan_found (p := chBad s) (b := ()) h2 (by simp_all [chBad, chOk]) (n := s.size) (by omega); simp [nameOk, hk]; done)
    | (have hk := scan_none (p := chBad s) (n := s.size) (fun j hj => h2 j (by omega)); have hs : 1 ≤ s.size ∧ s.size ≤ 24 := by omega; simp_all [nameOk, resv, wMin, wMax, wIf]; done)
    | skip
  have hk := scan_none (p := chBad s) (n := s.size) (fun j hj => h2 j (by omega))
  have hs : 1 ≤ s.size ∧ s.size ≤ 24 := by omega
  have e : nameOk s = true := by
    have e0 : resv s = 0 := by simp [resv, wMin, wMax, wIf, *]
    simp only [nameOk, hk, hs, e0]
    simp_all
  rw [e]

end Go.Vi.CYtdfhbmallnegfaa
