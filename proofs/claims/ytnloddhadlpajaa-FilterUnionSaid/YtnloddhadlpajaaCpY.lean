/-
  The least list: the plain law.
-/
import Derived.Test.YtnloddhadlpajaaCpX
import Derived.Test.YtnloddhadlpajaaCpN
namespace Go.Vi.CYtnloddhadlpajaa
open Go.Vi Go.Proofs Go.Proofs.Ytnloddhadlpajaa
set_option linter.unusedVariables false
set_option maxHeartbeats 1000000
set_option maxRecDepth 100000
set_option linter.unusedSimpArgs false

/-- parts put together again -/
def joinL : List ByteArray → List UInt8
  | [] => []
  | [x] => x.toList
  | x :: y :: r => x.toList ++ 47 :: joinL (y :: r)
theorem ext_list (s : ByteArray) (a b : Nat) : (s.extract a b).toList = (s.toList.take b).drop a := by
  rw [ByteArray.toList_eq, ByteArray.toList_eq, ByteArray.data_extract, Array.toList_extract]
  simp [List.extract_eq_take_drop, List.drop_take]
theorem partsF_ne (s : ByteArray) : ∀ (m f i : Nat), i + m = s.size → partsF s f i m ≠ []
  | 0, f, i, _ => by simp [partsF]
  | m + 1, f, i, h => by
    rw [partsF]
    have hi : i < s.size := by omega
    rw [getElem?_pos s i hi]
    dsimp only
    split
    · simp
    · exact partsF_ne s m f (i + 1) (by omega)
theorem join_parts (s : ByteArray) : ∀ (m f i : Nat), i + m = s.size → f ≤ i → joinL (partsF s f i m) = s.toList.drop f
  | 0, f, i, h, hf => by
    rw [partsF, joinL, ext_list, List.take_of_length_le (by rw [list_len]; omega)]
  | m + 1, f, i, h, hf => by
    rw [partsF]
    have hi : i < s.size := by omega
    have hc : s[i]? = some s[i] := getElem?_pos s i hi
    rw [hc]
    dsimp only
    split
    · rename_i h47
      have hne := partsF_ne s m (i + 1) (i + 1) (by omega)
      cases hp : partsF s (i + 1) (i + 1) m with
      | nil => exact absurd hp hne
      | cons y r =>
        rw [joinL, ← hp, join_parts s m (i + 1) (i + 1) (by omega) (Nat.le_refl _), ext_list]
        have e : (47 : UInt8) = s[i] := UInt8.toNat_inj.1 h47.symm
        rw [e, ← drop_at' (list_at hc)]
        have e2 : s.toList.drop f = ((s.toList.take i).drop f) ++ s.toList.drop i := by
          conv => lhs; rw [← List.take_append_drop i s.toList]
          rw [List.drop_append_of_le_length (by rw [List.length_take, list_len]; omega)]
        rw [e2]
    · exact join_parts s m f (i + 1) (by omega) (by omega)
theorem parts_inj {s t : ByteArray} (h : (partsS s).list = (partsS t).list) : s = t := by
  have h1 : parts' s = parts' t := h
  have a := join_parts s s.size 0 0 (by omega) (Nat.le_refl _)
  have b := join_parts t t.size 0 0 (by omega) (Nat.le_refl _)
  have h2 : partsF s 0 0 s.size = partsF t 0 0 t.size := h1
  rw [h2, b] at a
  rw [List.drop_zero, List.drop_zero] at a
  rw [← ofL_to s, ← ofL_to t, a]
theorem cov_refl : ∀ a : List ByteArray, patOk a → coversL a a = true
  | [], _ => by simp [coversL]
  | p :: a, h => by
    by_cases hp : p = wMM
    · simp [coversL, hp, patOk_head h hp]
    · simp [coversL, hp, cov_refl a (patOk_tail h)]
theorem cov_anti : ∀ a b : List ByteArray, coversL a b = true → coversL b a = true → a = b
  | [], [], _, _ => rfl
  | [], q :: b, h, _ => by simp [coversL] at h
  | p :: a, [], _, h => by simp [coversL] at h
  | p :: a, q :: b, h, h2 => by
    simp only [coversL, Bool.or_eq_true, Bool.and_eq_true, decide_eq_true_eq, Bool.not_eq_true', decide_eq_false_iff_not] at h h2
    rcases h with ⟨rfl, rfl⟩ | ⟨⟨h1, h3⟩, h4⟩
    · rcases h2 with ⟨rfl, rfl⟩ | ⟨⟨h5, _⟩, _⟩
      · rfl
      · exact absurd rfl h5
    · rcases h2 with ⟨_, rfl⟩ | ⟨⟨h5, h6⟩, h7⟩
      · exact absurd rfl h1
      · rw [cov_anti a b h4 h7]
        rcases h3 with h3 | h3
        · rcases h6 with h6 | h6
          · rw [h3, h6]
          · rw [h6]
        · rw [h3]
theorem cov_trans : ∀ a b c : List ByteArray, coversL a b = true → coversL b c = true → coversL a c = true
  | [], [], c, _, h => h
  | [], q :: b, c, h, _ => by simp [coversL] at h
  | p :: a, [], [], h, _ => h
  | p :: a, [], r :: c, _, h => by simp [coversL] at h
  | p :: a, q :: b, [], h, h2 => by
    simp only [coversL, Bool.or_eq_true, Bool.and_eq_true, decide_eq_true_eq, Bool.not_eq_true', decide_eq_false_iff_not] at h h2 ⊢
    rcases h with h | ⟨⟨h1, _⟩, _⟩
    · exact h
    · exact absurd h2.2 h1
  | p :: a, q :: b, r :: c, h, h2 => by
    simp only [coversL, Bool.or_eq_true, Bool.and_eq_true, decide_eq_true_eq, Bool.not_eq_true', decide_eq_false_iff_not] at h h2 ⊢
    rcases h with h | ⟨⟨h1, h3⟩, h4⟩
    · exact .inl h
    · rcases h2 with h2 | ⟨⟨h5, h6⟩, h7⟩
      · exact absurd h2.2 h1
      · refine .inr ⟨⟨h5, ?_⟩, cov_trans a b c h4 h7⟩
        rcases h3 with h3 | h3
        · exact .inl h3
        · rw [h3]; exact h6
theorem covB_refl {p : ByteArray} (h : patternB p = true) : coversB p p = true := coversB_iff.2 ⟨h, h, cov_refl _ (pat_ok h)⟩
theorem covB_anti {p q : ByteArray} (h : coversB p q = true) (h2 : coversB q p = true) : p = q :=
  parts_inj (cov_anti _ _ (coversB_iff.1 h).2.2 (coversB_iff.1 h2).2.2)
theorem covB_trans {p q r : ByteArray} (h : coversB p q = true) (h2 : coversB q r = true) : coversB p r = true :=
  coversB_iff.2 ⟨(coversB_iff.1 h).1, (coversB_iff.1 h2).2.1, cov_trans _ _ _ (coversB_iff.1 h).2.2 (coversB_iff.1 h2).2.2⟩
theorem right_iff {l : List ByteArray} : rightF l = true ↔ l.length ≤ 8 ∧ ∀ p ∈ l, patternB p = true := by
  unfold rightF chkR
  by_cases h8 : 8 < l.length
  · rw [if_pos h8]
    simp; omega
  · rw [if_neg h8]
    cases hs : scan (chkBad l) l.length with
    | none =>
      simp only [decide_true, true_iff]
      refine ⟨by omega, fun p hp => ?_⟩
      obtain ⟨i, hi, rfl⟩ := List.getElem_of_mem hp
      have h := scan_ok hs i hi
      simp only [chkBad, List.getElem?_eq_getElem hi] at h
      cases hpp : patternB l[i] with
      | true => rfl
      | false => rw [hpp] at h; simp at h
    | some v =>
      obtain ⟨i, u⟩ := v
      simp only [decide_eq_true_eq]
      constructor
      · intro h; exact absurd h (by decide)
      · rintro ⟨_, h⟩
        have : scan (chkBad l) l.length = none := scan_none fun j hj => by
          simp only [chkBad, List.getElem?_eq_getElem hj]
          rw [h _ (List.getElem_mem hj)]; rfl
        rw [this] at hs; cases hs
theorem count_lt {P Q : ByteArray → Bool} : ∀ {l : List ByteArray}, (∀ x ∈ l, P x = true → Q x = true) → (∃ x ∈ l, Q x = true ∧ P x = false) → l.countP P < l.countP Q
  | [], _, ⟨x, hx, _⟩ => by cases hx
  | y :: l, h, ⟨x, hx, h1, h2⟩ => by
    have hle : l.countP P ≤ l.countP Q := List.countP_mono_left fun z hz => h z (List.mem_cons_of_mem _ hz)
    rw [List.countP_cons, List.countP_cons]
    rcases List.mem_cons.1 hx with e | e
    · subst e; simp [h1, h2]; omega
    · have := count_lt (l := l) (fun z hz => h z (List.mem_cons_of_mem _ hz)) ⟨x, e, h1, h2⟩
      cases hp : P y with
      | false => simp; split <;> omega
      | true => simp [h y (by simp) hp]; exact this
theorem need_iff {l : List ByteArray} {p : ByteArray} : needF l p = true ↔ ∀ q ∈ l, q = p ∨ coversB q p = false := by
  unfold needF
  simp
/-- every pattern is covered by one that is needed -/
theorem need_cov' {l : List ByteArray} (hr : ∀ p ∈ l, patternB p = true) : ∀ (n : Nat) (p : ByteArray), p ∈ l → l.countP (fun q => !decide (q = p) && coversB q p) = n → ∃ q ∈ l, needF l q = true ∧ coversB q p = true := by
  intro n
  induction n using Nat.strongRecOn with
  | ind n ih =>
    intro p hp hn
    by_cases hk : needF l p = true
    · exact ⟨p, hp, hk, covB_refl (hr p hp)⟩
    · obtain ⟨q, hq, hqp, hc⟩ : ∃ q ∈ l, ¬ q = p ∧ coversB q p = true := by
        rw [need_iff] at hk
        simp only [Classical.not_forall, not_or, Bool.not_eq_false] at hk
        obtain ⟨q, hq, h1, h2⟩ := hk
        exact ⟨q, hq, h1, h2⟩
      have hlt : l.countP (fun r => !decide (r = q) && coversB r q) < l.countP (fun r => !decide (r = p) && coversB r p) := by
        refine count_lt (fun r _ h => ?_) ⟨q, hq, ?_, ?_⟩
        · simp only [Bool.and_eq_true, Bool.not_eq_true', decide_eq_false_iff_not] at h ⊢
          refine ⟨fun e => ?_, covB_trans h.2 hc⟩
          subst e
          exact hqp (covB_anti hc h.2)
        · simp [hqp, hc]
        · simp
      obtain ⟨r, h1, h2, h3⟩ := ih _ (by omega) q hq rfl
      exact ⟨r, h1, h2, covB_trans h3 hc⟩
theorem need_cov {l : List ByteArray} (hr : rightF l = true) (n : Nat) (p : ByteArray) (hp : p ∈ l) (hn : l.countP (fun q => !decide (q = p) && coversB q p) = n) : ∃ q ∈ l, needF l q = true ∧ coversB q p = true := need_cov' (right_iff.1 hr).2 n p hp hn
/-- the least list -/
abbrev lst (l : List ByteArray) : List ByteArray := leastF ltB (needF l) l []
theorem lst_mem {l : List ByteArray} {z : ByteArray} : z ∈ lst l ↔ z ∈ l ∧ needF l z = true := by
  rw [(leastF_is ltB_o (needF l) l [] List.Pairwise.nil).2 z]; simp
theorem lst_up (l : List ByteArray) : Up ltB (lst l) := (leastF_is ltB_o (needF l) l [] List.Pairwise.nil).1
theorem lst_len (l : List ByteArray) : (lst l).length ≤ l.length := by
  unfold lst
  rw [← leastB_eq (sortB_asc l) (sortB_perm l) (needF l)]
  have h1 := List.length_filter_le (needF l) (compB (sortB l))
  have h2 := compB_le (sortB l)
  rw [sortB_len] at h2
  omega
theorem lst_right {l : List ByteArray} (hr : rightF l = true) : rightF (lst l) = true := by
  have h := right_iff.1 hr
  exact right_iff.2 ⟨Nat.le_trans (lst_len l) h.1, fun p hp => h.2 p (lst_mem.1 hp).1⟩
theorem lst_cov {l : List ByteArray} (hr : rightF l = true) : coversF (lst l) l = true := by
  simp only [coversF, Bool.and_eq_true, List.all_eq_true, List.any_eq_true]
  refine ⟨⟨lst_right hr, hr⟩, fun q hq => ?_⟩
  obtain ⟨r, h1, h2, h3⟩ := need_cov hr _ q hq rfl
  exact ⟨r, lst_mem.2 ⟨h1, h2⟩, h3⟩
theorem cov_lst {l : List ByteArray} (hr : rightF l = true) : coversF l (lst l) = true := by
  simp only [coversF, Bool.and_eq_true, List.all_eq_true, List.any_eq_true]
  refine ⟨⟨hr, lst_right hr⟩, fun q hq => ?_⟩
  have hq' := (lst_mem.1 hq).1
  exact ⟨q, hq', covB_refl ((right_iff.1 hr).2 q hq')⟩
theorem lst_has {l : List ByteArray} (hr : rightF l = true) (s : ByteArray) : hasF (lst l) s = hasF l s := by
  rw [Bool.eq_iff_iff]
  exact ⟨sound1 (cov_lst hr), sound1 (lst_cov hr)⟩
theorem lst_same {a b : List ByteArray} (h : ∀ z, z ∈ a ↔ z ∈ b) : lst a = lst b := by
  have hn : ∀ p, needF a p = needF b p := fun p => by
    rw [Bool.eq_iff_iff, need_iff, need_iff]
    exact ⟨fun k q hq => k q ((h q).2 hq), fun k q hq => k q ((h q).1 hq)⟩
  exact Up.eq ltB_o (lst_up a) (lst_up b) fun z => by rw [lst_mem, lst_mem, h z, hn z]
theorem lst_lst (l : List ByteArray) : lst (lst l) = lst l :=
  Up.eq ltB_o (lst_up _) (lst_up _) fun z => by
    rw [lst_mem]
    refine ⟨fun h => h.1, fun h => ⟨h, need_iff.2 fun q hq => need_iff.1 (lst_mem.1 h).2 q (lst_mem.1 hq).1⟩⟩
theorem right_same {a b : List ByteArray} (h : ∀ z, z ∈ a ↔ z ∈ b) (hl : a.length = b.length) : rightF a = rightF b := by
  rw [Bool.eq_iff_iff, right_iff, right_iff, hl]
  exact ⟨fun k => ⟨k.1, fun p hp => k.2 p ((h p).2 hp)⟩, fun k => ⟨k.1, fun p hp => k.2 p ((h p).1 hp)⟩⟩
theorem lst_ne {l : List ByteArray} (hr : ∀ p ∈ l, patternB p = true) (h : l ≠ []) : lst l ≠ [] := fun e => by
  cases l with
  | nil => exact h rfl
  | cons a r =>
    obtain ⟨q, h1, h2, _⟩ := need_cov' hr _ a (by simp) rfl
    have h3 := lst_mem.2 ⟨h1, h2⟩
    rw [e] at h3; cases h3
theorem any_lst {l : List ByteArray} (hr : ∀ p ∈ l, patternB p = true) (s : ByteArray) : ((lst l).any fun p => matchB p s) = l.any fun p => matchB p s := by
  rw [Bool.eq_iff_iff, List.any_eq_true, List.any_eq_true]
  constructor
  · rintro ⟨p, hp, h⟩; exact ⟨p, (lst_mem.1 hp).1, h⟩
  · rintro ⟨p, hp, h⟩
    obtain ⟨q, h1, h2, h3⟩ := need_cov' hr _ p hp rfl
    refine ⟨q, lst_mem.2 ⟨h1, h2⟩, ?_⟩
    rw [coversB_iff] at h3
    rw [matchB_iff] at h ⊢
    exact ⟨h3.1, h.2.1, cov_match _ _ _ h3.2.2 h.2.2⟩
end Go.Vi.CYtnloddhadlpajaa
