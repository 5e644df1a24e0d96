/-
  What must come at any rate, whatever objects there are; what one key's timer does.
-/
import Derived.Test.YtmcojibgjibkdaaCrL
namespace Go.Vi.CYtmcojibgjibkdaa
open Go.Vi Go.Proofs Go.Proofs.Ytmcojibgjibkdaa
set_option linter.unusedVariables false
set_option maxHeartbeats 8000000
set_option maxRecDepth 100000
set_option linter.unusedSimpArgs false

theorem r_Ints (s s' : Sl Int) (h : s.list = s'.list) (hs : Sl.ok s) (H : Hp) : Runs Try.prog pol 16 [.val (slV iv s), .val (slV iv s')] H ([.val (.bool true)], [], H) := by
  unfold Sl.ok at hs
  have hl : s'.list.length = s.list.length := by rw [h]
  refine Runs.told (fn := Try.f16) (n := 26) [(0, .val (slV iv s)), (1, .val (slV iv s'))] [(0, .gone 0), (1, .gone 0)] rfl Try.func16 rfl rfl (by kernel_rfl) rfl (by repeat' constructor) (by repeat' constructor) ?_
  repeat' (first
    | intro _
    | refine Ws ?_
    | (refine Wt ?_ ?_ <;> intro _ <;> try (exfalso; omega))
    | (refine Wu ?_ ?_ <;> intro _)
    | refine Wv ?_
    | refine Wz ?_
    | fail)
  refine Wx.loop [0, 1] [0, 1] (fun k => [(5, .val (iv (k : Nat)))]) (fun k => []) (fun k => k ≤ s.list.length ∧ True) (fun k => s.list.length - k) 0 ⟨Nat.zero_le _, trivial⟩ (fun k x y hG => ?_)
  obtain ⟨h1, h2⟩ := hG
  dsimp only [List.cons_append, List.nil_append]
  rcases Nat.lt_or_ge k s.list.length with hk | hk
  · obtain ⟨z, hz⟩ := at_some hk
    have hz2 : s'.list[k]? = some z := by rw [← h]; exact hz
    repeat' (first
      | intro _
      | refine Ws ?_
      | (refine Wt ?_ ?_ <;> intro _ <;> try (exfalso; omega))
      | (refine Wu ?_ ?_ <;> intro _)
      | refine Wv ?_
      | refine Wz ?_
      | fail)
    exact Rd (k + 1) (by omega) ⟨by omega, trivial⟩
  · repeat' (first
      | intro _
      | refine Ws ?_
      | (refine Wt ?_ ?_ <;> intro _ <;> try (exfalso; omega))
      | (refine Wu ?_ ?_ <;> intro _)
      | refine Wv ?_
      | refine Wz ?_
      | fail)
    rfl
theorem srt_nil : Srt [] := ⟨List.Pairwise.nil, List.Pairwise.nil⟩
theorem ok0 : nowOk 0 := by unfold nowOk; omega
theorem r_awakeH (H : Hp) : ∃ H', Runs Try.prog pol 9 [] H ([.val (.bool true)], [], H') ∧ Step H H' [] [] := by
  obtain ⟨c, H0, S0, R0, C0, T0⟩ := r_New H
  obtain ⟨H1, S1, R1, C1, T1⟩ := r_Set (k := 7) (n := 5) C0 ok0 (by unfold badN; omega) srt_nil (by decide)
  obtain ⟨H2, S2, R2, C2, T2⟩ := r_Set (k := 3) (n := 5) C1 ok0 (by unfold badN; omega) (srt_nil.set _ _) (by decide)
  obtain ⟨H3, S3, R3, C3, T3⟩ := r_Set (k := 9) (n := 2) C2 ok0 (by unfold badN; omega) ((srt_nil.set _ _).set _ _) (by decide)
  obtain ⟨H4, S4, R4, C4, T4⟩ := r_Go (n := 5) C3 ok0 (by unfold badN; omega) (((srt_nil.set _ _).set _ _).set _ _) (by decide)
  have hg : goR (goT (0 + 5) (setT 9 (0 + 2) (setT 3 (0 + 5) (setT 7 (0 + 5) [])))).1 = .own (([9, 3, 7] : List Int).map iv) 1 := by kernel_rfl
  rw [hg] at R4
  have R5 := r_Now C4
  have I : ∀ H, Runs Try.prog pol 16 [.val (.lst [iv 9, iv 3, iv 7]), .val (.lst [iv 9, iv 3, iv 7])] H ([.val (.bool true)], [], H) := fun H => r_Ints (some [9, 3, 7]) (some [9, 3, 7]) rfl (by unfold Sl.ok; decide) H
  have T := ((T0.trans T1).trans T2).trans (T3.trans T4)
  refine ⟨H4, ?_, T.nx, T.ob, fun q hq => by cases hq⟩
  refine Runs.toldH (fn := Try.f9) (n := 39) [] [] rfl Try.func9 rfl rfl (by kernel_rfl) rfl (by repeat' constructor) (by repeat' constructor) ?_
  repeat' (first
    | intro _
    | refine Ws ?_
    | (refine Wt ?_ ?_ <;> intro _ <;> try (exfalso; omega))
    | (refine Wu ?_ ?_ <;> intro _)
    | refine Wo.callI R0 ?_
    | refine Wo.callI R1 ?_
    | refine Wo.callI R2 ?_
    | refine Wo.callI R3 ?_
    | refine Wo.callIO R4 (fun _ => ?_)
    | refine Wo.callGV I ?_
    | refine Wo.callI R5 ?_
    | refine Wl.retH rfl rfl
    | refine Wv ?_
    | refine Wz ?_
    | fail)
  rfl
end Go.Vi.CYtmcojibgjibkdaa
