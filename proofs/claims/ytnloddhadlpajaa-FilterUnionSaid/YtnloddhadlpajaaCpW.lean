/-
  filter.least, Normal: the least list.
-/
import Derived.Test.YtnloddhadlpajaaCpV
import Derived.Test.YtnloddhadlpajaaCpUb
import Derived.Test.YtnloddhadlpajaaCpH
namespace Go.Vi.CYtnloddhadlpajaa
open Go.Vi Go.Proofs Go.Proofs.Ytnloddhadlpajaa
set_option linter.unusedVariables false
set_option maxHeartbeats 4000000
set_option maxRecDepth 100000
set_option linter.unusedSimpArgs false

theorem r_least1 (q p : ByteArray) (H : Hp) : Runs Try.prog pol 50 [.val (.str q), .val (.elt [.agg [.str p]] 0 0)] H ([.val (.bool (!decide (q = p) && coversB q p))], [], H) := by
  refine Runs.told (fn := Try.f50) (n := 12) [(0, .val (.str q)), (1, .val (.elt [.agg [.str p]] 0 0))] [(0, .gone 0), (1, .gone 0)] rfl Try.func50 rfl rfl (by kernel_rfl) rfl (by repeat' constructor) (by repeat' constructor) ?_
  repeat' (first
    | intro _
    | refine Ws ?_
    | (refine Wt ?_ ?_ <;> intro _ <;> try (exfalso; omega))
    | (refine Wu ?_ ?_ <;> intro _)
    | refine Wo.call0 (r_Covers q p) ?_
    | refine Wv ?_
    | refine Wz ?_
    | fail)
  all_goals (simp [*]; done)
theorem sortB_len (l : List ByteArray) : (sortB l).length = l.length := (sortB_perm l).length_eq
theorem compB_le (l : List ByteArray) : (compB l).length ≤ l.length := by
  unfold compB
  rw [List.length_map]
  exact Nat.le_trans (compact_le _) (by simp)
theorem keep_eq {A l : List ByteArray} (h : ∀ z, z ∈ A ↔ z ∈ l) (p : ByteArray) : (A.any fun q => !decide (q = p) && coversB q p) = !needF l p := by
  unfold needF
  rw [List.all_eq_not_any_not, Bool.not_not, Bool.eq_iff_iff]
  simp only [List.any_eq_true]
  constructor
  · rintro ⟨q, hq, h1⟩
    refine ⟨q, (h q).1 hq, ?_⟩
    simpa using h1
  · rintro ⟨q, hq, h1⟩
    refine ⟨q, (h q).2 hq, ?_⟩
    simpa using h1
theorem slO_nil {l : List ByteArray} (h : l = []) : slO l = none := if_pos h
theorem r_least (l : Sl ByteArray) (hl : l.list.length ≤ 1000) (H : Hp) : Runs Try.prog pol 26 [.val (slV VV.str l)] H ([.val (slV VV.str (slO (leastF ltB (needF l.list) l.list [])))], [], H) := by
  have hlo : Sl.ok l := by unfold Sl.ok; omega
  have hA : ∀ z, z ∈ compB (sortB l.list) ↔ z ∈ l.list := fun z => mem_compB.trans (sortB_perm _).mem_iff
  have hAl : (compB (sortB l.list)).length ≤ l.list.length := Nat.le_trans (compB_le _) (by rw [sortB_len]; omega)
  have hk := fun p => keep_eq hA p
  have hE := leastB_eq (sortB_asc l.list) (sortB_perm l.list) (needF l.list)
  rw [← hE]
  by_cases hne : l.list = []
  · have hn : compB (sortB l.list) = [] := List.eq_nil_iff_forall_not_mem.2 fun z hz => by
      have := (hA z).1 hz
      rw [hne] at this; cases this
    rw [hn]
    refine Runs.told (fn := Try.f26) (n := 30) [(0, .val (slV VV.str l))] [(0, .gone 0)] rfl Try.func26 rfl rfl (by kernel_rfl) rfl (by repeat' constructor) (by repeat' constructor) ?_
    repeat' (first
      | intro _
      | refine Ws ?_
      | (refine Wt ?_ ?_ <;> intro _ <;> try (exfalso; omega))
      | (refine Wu ?_ ?_ <;> intro _)
      | refine Wo.appF (sz := 1) (enc := VV.str) (fun _ _ h => absurd hne h) (fun _ => ?_)
      | refine Wo.lendNone r_Sort0 ?_
      | refine Wo.giveNone r_Compact0 ?_
      | refine Wv ?_
      | refine Wz ?_
      | fail)
    refine Wx.loop [2, 3, 14, 15, 29] [0, 7, 9, 11, 13] (fun (k, e) => [(16, .val (iv (k : Nat))), (4, .val .nils)]) (fun (k, e) => []) (fun (k, e) => (k ≤ 0 ∧ e = ()) ∧ True) (fun (k, e) => 0 - k) (0, ()) ⟨⟨Nat.zero_le _, rfl⟩, trivial⟩ (fun a x y hG => ?_)
    obtain ⟨k, e⟩ := a
    obtain ⟨h1, h2⟩ := hG
    dsimp only [List.cons_append, List.nil_append]
    repeat' (first
      | intro _
      | refine Ws ?_
      | (refine Wt ?_ ?_ <;> intro _ <;> try (exfalso; omega))
      | (refine Wu ?_ ?_ <;> intro _)
      | refine Wv ?_
      | refine Wz ?_
      | fail)
    all_goals first
      | (exfalso; simp at *; omega)
      | rfl
      | trace_state
  · have hne2 : sortB l.list ≠ [] := fun h => hne ((sortB_perm l.list).symm.trans (by rw [h])).eq_nil
    have h1 := r_Sort l.list hne (by omega)
    have h2 := r_Compact (sortB l.list) hne2 (by rw [sortB_len]; omega)
    have hls := sortB_len l.list
    generalize hAA : compB (sortB l.list) = A at *
    generalize sortB l.list = S at *
    refine Runs.told (fn := Try.f26) (n := 30) [(0, .val (slV VV.str l))] [(0, .gone 0)] rfl Try.func26 rfl rfl (by kernel_rfl) rfl (by repeat' constructor) (by repeat' constructor) ?_
    repeat' (first
      | intro _
      | refine Ws ?_
      | (refine Wt ?_ ?_ <;> intro _ <;> try (exfalso; omega))
      | (refine Wu ?_ ?_ <;> intro _)
      | refine Wo.appF (sz := 1) (enc := VV.str) (fun _ _ _ => ?_) (fun h => absurd h hne)
      | refine Wo.lendRow h1 ?_
      | refine Wo.giveRow h2 (fun _ => ?_)
      | refine Wv ?_
      | refine Wz ?_
      | fail)
    obtain ⟨B, hB1, hB2⟩ : ∃ B : Sl ByteArray, slV VV.str B = .lst (A.map VV.str) ∧ B.list = A := ⟨some A, rfl, rfl⟩
    rw [← hB1, List.length_map]
    subst hB2
    have hBo : Sl.ok B := by unfold Sl.ok; omega
    refine Wx.loop [2, 3, 14, 15, 29] [7, 9, 11, 13] (fun (k, e, g, r, m) => [(16, .val (iv (k : Nat))), (4, bif e then .val .nils else .own 27 g 0 m 1)]) (fun (k, e, g, r, m) => [(0, .gone 0), ((bif e then 0 else 27), bif e then .gone 0 else .row g (r.map VV.str) 1 false)]) (fun (k, e, g, r, m) => (k ≤ B.list.length ∧ m = r.length ∧ m ≤ k) ∧ r ++ (B.list.drop k).filter (needF l.list) = B.list.filter (needF l.list) ∧ (e = true → r = []) ∧ (e = false → r ≠ [])) (fun (k, e, g, r, m) => B.list.length - k) (0, true, 0, ([] : List ByteArray), 0) ⟨⟨Nat.zero_le _, rfl, Nat.le_refl _⟩, rfl, fun _ => rfl, fun h => (by cases h)⟩ (fun a x y hG => ?_)
    obtain ⟨k, e, g, r, m⟩ := a
    obtain ⟨h3, h4, h5, h6⟩ := hG
    dsimp only [List.cons_append, List.nil_append]
    obtain ⟨hk0, hm, hmk⟩ := h3
    subst hm
    have e1 : List.take r.length r = r := List.take_length
    rcases Nat.lt_or_ge k B.list.length with hkk | hkk
    · obtain ⟨z, hz⟩ := at_some hkk
      rw [drop_at hz, List.filter_cons] at h4
      have h7 := r_some B hBo 50 [.elt [.agg [.str z]] 0 0] (fun q => !decide (q = z) && coversB q z) (fun q _ => r_least1 q z)
      rw [hk z] at h7
      generalize hb : needF l.list z = b at h7 h4
      cases e <;> cases b
      · repeat' (first
          | intro _
          | refine Ws ?_
          | (refine Wt ?_ ?_ <;> intro _ <;> try (exfalso; omega))
          | (refine Wu ?_ ?_ <;> intro _)
          | refine Wo.call0 (h7) ?_
          | refine Wv ?_
          | refine Wz ?_
          | fail)
        exact Rd (k + 1, false, g, r, r.length) (by dsimp only; omega) ⟨⟨by dsimp only; omega, rfl, by dsimp only; omega⟩, by simpa using h4, h5, h6⟩
      · repeat' (first
          | intro _
          | refine Ws ?_
          | (refine Wt ?_ ?_ <;> intro _ <;> try (exfalso; omega))
          | (refine Wu ?_ ?_ <;> intro _)
          | refine Wo.call0 (h7) ?_
          | refine Wv ?_
          | refine Wz ?_
          | fail)
        rw [e1]
        exact Rd (k + 1, false, _, r ++ [z], r.length + 1) (by dsimp only; omega) ⟨⟨by dsimp only; omega, by simp, by dsimp only; omega⟩, by simpa using h4, (fun h => (by cases h)), (fun _ => (by simp))⟩
      all_goals
        have hr := h5 rfl
        subst hr
      · repeat' (first
          | intro _
          | refine Ws ?_
          | (refine Wt ?_ ?_ <;> intro _ <;> try (exfalso; omega))
          | (refine Wu ?_ ?_ <;> intro _)
          | refine Wo.call0 (h7) ?_
          | refine Wv ?_
          | refine Wz ?_
          | fail)
        exact Rd (k + 1, true, g, [], 0) (by dsimp only; omega) ⟨⟨by dsimp only; omega, rfl, by dsimp only; omega⟩, by simpa using h4, h5, h6⟩
      · repeat' (first
          | intro _
          | refine Ws ?_
          | (refine Wt ?_ ?_ <;> intro _ <;> try (exfalso; omega))
          | (refine Wu ?_ ?_ <;> intro _)
          | refine Wo.call0 (h7) ?_
          | refine Wo.app1n (enc := VV.str) okStr (fun g4 => ?_)
          | refine Wv ?_
          | refine Wz ?_
          | fail)
        exact Rd (k + 1, false, _, [z], 1) (by dsimp only; omega) ⟨⟨by dsimp only; omega, rfl, by dsimp only; omega⟩, by simpa using h4, (fun h => (by cases h)), (fun _ => (by simp))⟩
    · rw [List.drop_eq_nil_of_le hkk, List.filter_nil, List.append_nil] at h4
      cases e
      · repeat' (first
          | intro _
          | refine Ws ?_
          | (refine Wt ?_ ?_ <;> intro _ <;> try (exfalso; omega))
          | (refine Wu ?_ ?_ <;> intro _)
          | refine Wv ?_
          | refine Wz ?_
          | fail)
        all_goals first
          | (refine Wl.retF ?_; rw [← h4, slO_ne (h6 rfl)]; rfl)
          | trace_state
      · have hr := h5 rfl
        subst hr
        repeat' (first
          | intro _
          | refine Ws ?_
          | (refine Wt ?_ ?_ <;> intro _ <;> try (exfalso; omega))
          | (refine Wu ?_ ?_ <;> intro _)
          | refine Wv ?_
          | refine Wz ?_
          | fail)
        all_goals first
          | (rw [← h4]; rfl)
          | trace_state
end Go.Vi.CYtnloddhadlpajaa
