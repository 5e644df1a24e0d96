/-
  FilterSound: the plain law, and the walk.
-/
import Derived.Test.YtnloddhadlpajaaCpI
import Derived.Test.YtnloddhadlpajaaCpJ
namespace Go.Vi.CYtnloddhadlpajaa
open Go.Vi Go.Proofs Go.Proofs.Ytnloddhadlpajaa
set_option linter.unusedVariables false
set_option maxHeartbeats 4000000
set_option maxRecDepth 100000
set_option linter.unusedSimpArgs false

theorem cov_match : ∀ a b s : List ByteArray, coversL a b = true → matchL b s = true → matchL a s = true
  | [], [], s, _, h => h
  | [], q :: b, s, h, _ => by simp [coversL] at h
  | p :: a, [], s, h, h2 => by
    simp only [coversL, Bool.and_eq_true, decide_eq_true_eq] at h
    obtain ⟨rfl, rfl⟩ := h
    cases s with
    | nil => simp [matchL]
    | cons x s => simp [matchL]
  | p :: a, q :: b, s, h, h2 => by
    by_cases hp : p = wMM
    · cases s with
      | nil =>
        have ha : a = [] := by
          simp only [coversL, hp, Bool.or_eq_true, Bool.and_eq_true, decide_eq_true_eq, Bool.not_eq_true', decide_eq_false_iff_not] at h
          rcases h with h | ⟨⟨h1, h3⟩, h4⟩
          · exact h.1
          · exfalso
            simp only [matchL, Bool.and_eq_true, decide_eq_true_eq] at h2
            exact h1 h2.2
        simp [matchL, hp, ha]
      | cons x s => simp [matchL, hp]
    · simp only [coversL, Bool.or_eq_true, Bool.and_eq_true, decide_eq_true_eq, Bool.not_eq_true', decide_eq_false_iff_not] at h
      rcases h with h | ⟨⟨h1, h3⟩, h4⟩
      · exact absurd h.2 hp
      · cases s with
        | nil => simp only [matchL, Bool.and_eq_true, decide_eq_true_eq] at h2; exact absurd h2.2 h1
        | cons x s =>
          simp only [matchL, Bool.or_eq_true, Bool.and_eq_true, decide_eq_true_eq] at h2 ⊢
          rcases h2 with h2 | ⟨h5, h6⟩
          · exact absurd h2 h1
          · refine .inr ⟨?_, cov_match a b s h4 h6⟩
            rcases h3 with h3 | h3
            · exact .inl h3
            · subst h3; exact h5
theorem match_meet : ∀ a b s : List ByteArray, patOk a → patOk b → matchL a s = true → matchL b s = true → meetsL a b = true
  | [], [], s, _, _, _, _ => rfl
  | [], q :: b, s, _, _, h, h2 => by
    cases s with
    | nil => simpa [meetsL, matchL] using h2
    | cons x s => simp [matchL] at h
  | p :: a, [], s, _, _, h, h2 => by
    cases s with
    | nil => simpa [meetsL, matchL] using h
    | cons x s => simp [matchL] at h2
  | p :: a, q :: b, s, ha, hb, h, h2 => by
    simp only [meetsL, Bool.or_eq_true, Bool.and_eq_true, decide_eq_true_eq]
    by_cases hp : p = wMM
    · exact .inl (.inl ⟨patOk_head ha hp, hp⟩)
    by_cases hq : q = wMM
    · exact .inl (.inr ⟨patOk_head hb hq, hq⟩)
    cases s with
    | nil => simp only [matchL, Bool.and_eq_true, decide_eq_true_eq] at h; exact absurd h.2 hp
    | cons x s =>
      simp only [matchL, Bool.or_eq_true, Bool.and_eq_true, decide_eq_true_eq] at h h2
      rcases h with h | ⟨h5, h6⟩
      · exact absurd h hp
      rcases h2 with h2 | ⟨h7, h8⟩
      · exact absurd h2 hq
      refine .inr ⟨?_, match_meet a b s (patOk_tail ha) (patOk_tail hb) h6 h8⟩
      rcases h5 with h5 | h5
      · exact .inl (.inl h5)
      rcases h7 with h7 | h7
      · exact .inl (.inr h7)
      · exact .inr (h5.trans h7.symm)
theorem matchB_iff {p s : ByteArray} : matchB p s = true ↔ patternB p = true ∧ streamB s = true ∧ matchL (partsS p).list (partsS s).list = true := by
  constructor
  · intro h
    have hp : patternB p = true := by simp only [matchB, Bool.and_eq_true] at h; exact h.1.1.1
    have hs : streamB s = true := by simp only [matchB, Bool.and_eq_true] at h; exact h.1.1.2
    refine ⟨hp, hs, ?_⟩
    rw [match_ok hp]
    simpa [matchB, hp, hs] using h
  · rintro ⟨hp, hs, h⟩
    rw [match_ok hp] at h
    simpa [matchB, hp, hs] using h
theorem coversB_iff {p q : ByteArray} : coversB p q = true ↔ patternB p = true ∧ patternB q = true ∧ coversL (partsS p).list (partsS q).list = true := by
  constructor
  · intro h
    have hp : patternB p = true := by simp only [coversB, Bool.and_eq_true] at h; exact h.1.1.1
    have hs : patternB q = true := by simp only [coversB, Bool.and_eq_true] at h; exact h.1.1.2
    refine ⟨hp, hs, ?_⟩
    rw [covers_ok hp hs]
    simpa [coversB, hp, hs] using h
  · rintro ⟨hp, hs, h⟩
    rw [covers_ok hp hs] at h
    simpa [coversB, hp, hs] using h
theorem meetsB_iff {p q : ByteArray} : meetsB p q = true ↔ patternB p = true ∧ patternB q = true ∧ meetsL (partsS p).list (partsS q).list = true := by
  constructor
  · intro h
    have hp : patternB p = true := by simp only [meetsB, Bool.and_eq_true] at h; exact h.1.1
    have hs : patternB q = true := by simp only [meetsB, Bool.and_eq_true] at h; exact h.1.2
    refine ⟨hp, hs, ?_⟩
    rw [meets_ok hp hs]
    simpa [meetsB, hp, hs] using h
  · rintro ⟨hp, hs, h⟩
    rw [meets_ok hp hs] at h
    simpa [meetsB, hp, hs] using h
theorem sound1 {a b : List ByteArray} {s : ByteArray} (h : coversF a b = true) (h2 : hasF b s = true) : hasF a s = true := by
  simp only [coversF, hasF, Bool.and_eq_true, List.all_eq_true, List.any_eq_true] at *
  obtain ⟨hb, q, hq, hm⟩ := h2
  obtain ⟨p, hp, hc⟩ := h.2 q hq
  refine ⟨h.1.1, p, hp, ?_⟩
  rw [coversB_iff] at hc
  rw [matchB_iff] at hm ⊢
  exact ⟨hc.1, hm.2.1, cov_match _ _ _ hc.2.2 hm.2.2⟩
theorem sound2 {a b : List ByteArray} {s : ByteArray} (h : hasF a s = true) (h2 : hasF b s = true) : meetFF a b = true := by
  simp only [meetFF, hasF, Bool.and_eq_true, List.any_eq_true] at *
  obtain ⟨ha, p, hp, hm⟩ := h
  obtain ⟨hb, q, hq, hn⟩ := h2
  refine ⟨⟨ha, hb⟩, p, hp, q, hq, ?_⟩
  rw [matchB_iff] at hm hn
  rw [meetsB_iff]
  exact ⟨hm.1, hn.1, match_meet _ _ _ (pat_ok hm.1) (pat_ok hn.1) hm.2.2 hn.2.2⟩
theorem r_Union0 : Runs Try.prog pol 22 [.val .nils] (Hp.bare 0) ([.val .nils, .val (iv 0)], [], Hp.bare 0) := ⟨100, by kernel_rfl⟩
theorem r_FilterSound (a b : Sl ByteArray) (s : ByteArray) (ha : Sl.ok a) (hb : Sl.ok b) (H : Hp) (hH : H = Hp.bare 0) : Runs Try.prog pol 7 [.val (slV VV.str a), .val (slV VV.str b), .val (.str s)] H ([.val (.bool true)], [], H) := by
  subst hH
  obtain ⟨a2, ha2, hfa⟩ := r_few a ha
  obtain ⟨b2, hb2, hfb⟩ := r_few b hb
  have ha3 : Sl.ok a2 := by unfold Sl.ok; omega
  have hb3 : Sl.ok b2 := by unfold Sl.ok; omega
  have h1 := r_FCovers a2 b2 ha3 hb3
  have h2 := r_Has a2 ha3 s
  have h3 := r_Has b2 hb3 s
  have h4 := r_FMeet a2 b2 ha3 hb3
  have s1 : coversF a2.list b2.list = true → hasF b2.list s = true → hasF a2.list s = true := sound1
  have s2 : hasF a2.list s = true → hasF b2.list s = true → meetFF a2.list b2.list = true := sound2
  generalize coversF a2.list b2.list = c at h1 s1
  generalize meetFF a2.list b2.list = m at h4 s2
  generalize hasF a2.list s = h5 at h2 s1 s2
  generalize hasF b2.list s = h6 at h3 s1 s2
  cases c <;> cases m <;> cases h5 <;> cases h6 <;> simp at s1 s2
  all_goals
    refine Runs.told (fn := Try.f7) (n := 58) [(0, .val (slV VV.str a)), (1, .val (slV VV.str b)), (2, .val (.str s))] [(0, .gone 0), (1, .gone 0), (2, .gone 0)] rfl Try.func7 rfl rfl (by kernel_rfl) rfl (by repeat' constructor) (by repeat' constructor) ?_
    repeat' (first
      | intro _
      | refine Ws ?_
      | (refine Wt ?_ ?_ <;> intro _ <;> try (exfalso; omega))
      | (refine Wu ?_ ?_ <;> intro _)
      | refine Wo.call0 (hfa) ?_
      | refine Wo.call0 (hfb) ?_
      | refine Wo.callAt r_awake ?_
      | refine Wo.callAt r_Union0 ?_
      | refine Wo.call0 (h1) ?_
      | refine Wo.call0 (h2) ?_
      | refine Wo.call0 (h3) ?_
      | refine Wo.call0 (h4) ?_
      | refine Wv ?_
      | refine Wz ?_
      | fail)
    all_goals rfl
end Go.Vi.CYtnloddhadlpajaa
