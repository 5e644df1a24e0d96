/-
  TimersDo: every call of a clock is answered as the document says.
-/
import Derived.Test.YtmcojibgjibkdaaCrW
namespace Go.Vi.CYtmcojibgjibkdaa
open Go.Vi Go.Proofs Go.Proofs.Ytmcojibgjibkdaa
set_option linter.unusedVariables false
set_option maxHeartbeats 16000000
set_option maxRecDepth 100000
set_option linter.unusedSimpArgs false

theorem r_TimersDo (s : Sl Ac) (key : Int) (hs : Sl.ok s ∧ ∀ y ∈ s.list, y.ok) (hk : w64 key) : ∃ H, Runs Try.prog pol 6 [.val (slV acV s), .val (iv key)] (Hp.bare 0) ([.val (.bool true)], [], H) := by
  obtain ⟨c, xo, H1, S1, R1, B1, T1, hl⟩ := r_made s hs (Hp.bare 0)
  obtain ⟨H2, R2, T2⟩ := r_awakeH H1
  have C2 : Ck H2 c (runF s.list 90).1 (runF s.list 90).2 S1 := B1.ck.keep (T2.keep fun q hq => ⟨B1.ck.lt q hq, by simp⟩)
  have F2 : Rf H2 xo (runF s.list 90).1 (runF s.list 90).2 := B1.rf.keep (T2.keep fun q hq => by simp at hq; subst hq; exact ⟨B1.rf.1, by simp⟩)
  have hok := B1.ok
  have hso := B1.so
  generalize runF s.list 90 = p at *
  obtain ⟨now, ts⟩ := p
  dsimp only at *
  obtain ⟨hx, sl, hO, hsl⟩ := F2
  have hll : sl.list.length = ts.length := by rw [hsl]
  have RA := r_All C2 hso (by omega)
  have RN := r_Now C2
  have RS : ∀ H, Runs Try.prog pol 17 [.val (slV tmV (some ts)), .val (slV tmV sl)] H ([.val (.bool true)], [], H) := fun H => r_Same (some ts) sl hsl.symm (by show ts.length ≤ _; omega) H
  refine ⟨H2, ?_⟩
  have fin : ∀ (n : Int) (b : Bool), Runs Try.prog pol 14 [.val (.ptr c 0), .val (iv key)] H2 ([.val (iv n), .val (.bool b)], [], H2) → True := fun _ _ _ => trivial
  by_cases hin : ∃ z ∈ ts, z.key = key
  · obtain ⟨z, hz, rfl⟩ := hin
    have RD := r_Due1 C2 hz (by omega)
    obtain ⟨j0, hj0⟩ := List.getElem?_of_mem hz
    have hj1 := (List.getElem?_eq_some_iff.1 hj0).1
    refine Runs.toldH (fn := Try.f6) (n := 121) [(0, .val (slV acV s)), (1, .val (iv z.key))] [(0, .gone 0), (1, .gone 0)] rfl Try.func6 rfl rfl (by kernel_rfl) rfl (by repeat' constructor) (by repeat' constructor) ?_
    repeat' (first
      | intro _
      | refine Ws ?_
      | (refine Wt ?_ ?_ <;> intro _ <;> try (exfalso; omega))
      | (refine Wu ?_ ?_ <;> intro _)
      | refine Wo.callI R1 ?_
      | refine Wo.callI R2 ?_
      | refine Wo.callI RD ?_
      | refine Wv ?_
      | refine Wz ?_
      | fail)
    refine Wx.loop [1, 4, 5, 6, 8, 9, 13, 14, 60, 61, 62, 63, 64, 65, 66, 67, 68, 69, 70, 71, 72, 73, 74, 75, 76, 77, 78, 79, 80, 81, 82, 83, 84, 85, 86, 87, 88, 89, 90, 91, 92, 93, 94, 95, 96, 97, 98, 99, 100, 101, 102, 103, 104, 105, 106, 107, 108, 109, 110, 111, 112, 113, 114, 115, 116, 117, 118, 119, 120] [0, 1, 13, 17, 24, 30, 62, 105, 114, 119] (fun (k, e, d) => [(10, .val (.bool e)), (11, .val (iv d)), (12, .val (iv (k : Nat)))]) (fun (k, e, d) => []) (fun (k, e, d) => k ≤ sl.list.length ∧ (j0 < k → e = true ∧ d = z.due) ∧ (¬ j0 < k → e = false ∧ d = 0)) (fun (k, e, d) => sl.list.length - k) (0, false, 0) ⟨Nat.zero_le _, fun h => by omega, fun _ => ⟨rfl, rfl⟩⟩ (fun a x y hG => ?_)
    obtain ⟨k, e, d⟩ := a
    obtain ⟨h1, h2, h3⟩ := hG
    dsimp only [List.cons_append, List.nil_append]
    rcases Nat.lt_or_ge k sl.list.length with hk9 | hk9
    · obtain ⟨t, ht⟩ := at_some hk9
      have ht2 : ts[k]? = some t := by rw [← hsl]; exact ht
      by_cases hkj : k = j0
      · subst hkj
        rw [hj0] at ht2; cases ht2
        repeat' (first
          | intro _
          | refine Ws ?_
          | (refine Wt ?_ ?_ <;> intro _ <;> try (exfalso; omega))
          | (refine Wu ?_ ?_ <;> intro _)
          | refine Wo.loadHc hO ?_
          | refine Wv ?_
          | refine Wz ?_
          | fail)
        all_goals exact Rd (k + 1, true, z.due) (by dsimp only; omega) ⟨(by dsimp only; omega), fun _ => ⟨rfl, rfl⟩, fun h => absurd (Nat.lt_succ_self _) h⟩
      · have hne : ¬ t.key = z.key := fun e => by
          have := hso.uniq (List.mem_of_getElem? ht2) hz e
          subst this
          obtain ⟨a1, b1⟩ := List.getElem?_eq_some_iff.1 ht2
          obtain ⟨a2, b2⟩ := List.getElem?_eq_some_iff.1 hj0
          rcases Nat.lt_trichotomy k j0 with h | h | h
          · have := List.pairwise_iff_getElem.1 hso.ke k j0 a1 a2 h
            rw [b1, b2] at this; exact this rfl
          · exact hkj h
          · have := List.pairwise_iff_getElem.1 hso.ke j0 k a2 a1 h
            rw [b1, b2] at this; exact this rfl
        repeat' (first
          | intro _
          | refine Ws ?_
          | (refine Wt ?_ ?_ <;> intro _ <;> try (exfalso; omega))
          | (refine Wu ?_ ?_ <;> intro _)
          | refine Wo.loadHc hO ?_
          | refine Wv ?_
          | refine Wz ?_
          | fail)
        all_goals exact Rd (k + 1, e, d) (by dsimp only; omega) ⟨(by dsimp only; omega), fun h => h2 (by dsimp only at h; omega), fun h => h3 (by dsimp only at h; omega)⟩
    · obtain ⟨rfl, rfl⟩ := h2 (by omega)
      cases ts with
      | nil => cases hz
      | cons t r =>
        have RF := r_First1 C2 hso.head
        have ht0 : sl.list[(0 : Int).toNat]? = some t := by rw [hsl]; rfl
        have hl0 : sl.list.length = r.length + 1 := by rw [hsl]; rfl
        repeat' (first
          | intro _
          | refine Wo.neT t ?_
          | refine Ws ?_
          | (refine Wt ?_ ?_ <;> intro _ <;> try (exfalso; omega))
          | (refine Wu ?_ ?_ <;> intro _)
          | refine Wo.loadHc hO ?_
          | refine Wo.callI RF ?_
          | refine Wo.callI RN ?_
          | refine Wo.callI RA ?_
          | refine Wo.callGV RS ?_
          | refine Wl.retH rfl rfl
          | refine Wv ?_
          | refine Wz ?_
          | fail)
        all_goals first
          | rfl
          | (exfalso; omega)
  · have hno : ∀ z ∈ ts, z.key ≠ key := fun z hz e => hin ⟨z, hz, e⟩
    have RD := r_Due0 C2 hno
    refine Runs.toldH (fn := Try.f6) (n := 121) [(0, .val (slV acV s)), (1, .val (iv key))] [(0, .gone 0), (1, .gone 0)] rfl Try.func6 rfl rfl (by kernel_rfl) rfl (by repeat' constructor) (by repeat' constructor) ?_
    repeat' (first
      | intro _
      | refine Ws ?_
      | (refine Wt ?_ ?_ <;> intro _ <;> try (exfalso; omega))
      | (refine Wu ?_ ?_ <;> intro _)
      | refine Wo.callI R1 ?_
      | refine Wo.callI R2 ?_
      | refine Wo.callI RD ?_
      | refine Wv ?_
      | refine Wz ?_
      | fail)
    refine Wx.loop [1, 4, 5, 6, 8, 9, 13, 14, 60, 61, 62, 63, 64, 65, 66, 67, 68, 69, 70, 71, 72, 73, 74, 75, 76, 77, 78, 79, 80, 81, 82, 83, 84, 85, 86, 87, 88, 89, 90, 91, 92, 93, 94, 95, 96, 97, 98, 99, 100, 101, 102, 103, 104, 105, 106, 107, 108, 109, 110, 111, 112, 113, 114, 115, 116, 117, 118, 119, 120] [0, 1, 13, 17, 24, 30, 62, 105, 114, 119] (fun (k, e, d) => [(10, .val (.bool e)), (11, .val (iv d)), (12, .val (iv (k : Nat)))]) (fun (k, e, d) => []) (fun (k, e, d) => k ≤ sl.list.length ∧ e = false ∧ d = 0) (fun (k, e, d) => sl.list.length - k) (0, false, 0) ⟨Nat.zero_le _, rfl, rfl⟩ (fun a x y hG => ?_)
    obtain ⟨k, e, d⟩ := a
    obtain ⟨h1, h2, h3⟩ := hG
    dsimp only [List.cons_append, List.nil_append]
    subst h2; subst h3
    rcases Nat.lt_or_ge k sl.list.length with hk9 | hk9
    · obtain ⟨t, ht⟩ := at_some hk9
      have hne : ¬ t.key = key := hno t (by rw [← hsl]; exact List.mem_of_getElem? ht)
      repeat' (first
        | intro _
        | refine Ws ?_
        | (refine Wt ?_ ?_ <;> intro _ <;> try (exfalso; omega))
        | (refine Wu ?_ ?_ <;> intro _)
        | refine Wo.loadHc hO ?_
        | refine Wv ?_
        | refine Wz ?_
        | fail)
      all_goals exact Rd (k + 1, false, 0) (by dsimp only; omega) ⟨(by dsimp only; omega), rfl, rfl⟩
    · cases ts with
      | nil =>
        have RF := r_First0 C2
        have hl0 : sl.list.length = 0 := by rw [hsl]; rfl
        repeat' (first
          | intro _
          | refine Wo.neT ⟨0, 0⟩ ?_
          | refine Ws ?_
          | (refine Wt ?_ ?_ <;> intro _ <;> try (exfalso; omega))
          | (refine Wu ?_ ?_ <;> intro _)
          | refine Wo.loadHc hO ?_
          | refine Wo.callI RF ?_
          | refine Wo.callI RN ?_
          | refine Wo.callI RA ?_
          | refine Wo.callGV RS ?_
          | refine Wl.retH rfl rfl
          | refine Wv ?_
          | refine Wz ?_
          | fail)
        all_goals first
          | rfl
          | (exfalso; omega)
      | cons t r =>
        have RF := r_First1 C2 hso.head
        have ht0 : sl.list[(0 : Int).toNat]? = some t := by rw [hsl]; rfl
        have hl0 : sl.list.length = r.length + 1 := by rw [hsl]; rfl
        repeat' (first
          | intro _
          | refine Wo.neT t ?_
          | refine Ws ?_
          | (refine Wt ?_ ?_ <;> intro _ <;> try (exfalso; omega))
          | (refine Wu ?_ ?_ <;> intro _)
          | refine Wo.loadHc hO ?_
          | refine Wo.callI RF ?_
          | refine Wo.callI RN ?_
          | refine Wo.callI RA ?_
          | refine Wo.callGV RS ?_
          | refine Wl.retH rfl rfl
          | refine Wv ?_
          | refine Wz ?_
          | fail)
        all_goals first
          | rfl
          | (exfalso; omega)
end Go.Vi.CYtmcojibgjibkdaa
