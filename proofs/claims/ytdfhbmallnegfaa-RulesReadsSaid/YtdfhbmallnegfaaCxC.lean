/-
  Lists of names, of values, of states; guards, steps.
-/
import Derived.Test.YtdfhbmallnegfaaCxB
namespace Go.Vi.CYtdfhbmallnegfaa
open Go.Vi Go.Proofs Go.Proofs.Ytdfhbmallnegfaa
set_option linter.unusedVariables false
set_option maxHeartbeats 8000000
set_option maxRecDepth 100000
set_option linter.unusedSimpArgs false

theorem any_take {α : Type} {l : List α} {p : α → Bool} {i : Nat} (h : ∀ j, j < i → ∀ o, l[j]? = some o → p o = false) : (l.take i).any p = false := by
  rw [List.any_eq_false]
  intro o ho
  obtain ⟨j, hj, e⟩ := List.getElem_of_mem ho
  rw [List.getElem_take] at e
  have hj' : j < i := by rw [List.length_take] at hj; omega
  have := h j hj' o (by rw [← e]; exact List.getElem?_eq_getElem _)
  simp [this]
theorem any_took {α : Type} {l : List α} {p : α → Bool} {i j : Nat} {o : α} (hj : j < i) (ho : l[j]? = some o) (hp : p o = true) : (l.take i).any p = true := by
  rw [List.any_eq_true]
  refine ⟨o, ?_, hp⟩
  have : (l.take i)[j]? = some o := by rw [List.getElem?_take_of_lt hj]; exact ho
  exact List.mem_of_getElem? this

def nameBad (l : List ByteArray) (i : Nat) : Option Int :=
  match l[i]? with
  | some s => if nameOk s then (if (l.take i).any (fun o => decide (o = s)) then some 9 else none) else some 6
  | none => none
def names (l : List ByteArray) (most : Int) : Int × Int := if (l.length : Int) > most then (0, 4) else match scan (nameBad l) l.length with | some (i, e) => ((i : Int), e) | none => (0, 0)
def first0 (o : Option (Nat × Int)) : Int × Int := match o with | some (i, e) => ((i : Int), e) | none => (0, 0)

theorem take_at {α : Type} {l : List α} {i j : Nat} {o : α} (h : (l.take i)[j]? = some o) : j < i ∧ l[j]? = some o := by
  rw [List.getElem?_take] at h
  split at h
  · exact ⟨by assumption, h⟩
  · cases h

theorem r_names (s : Sl ByteArray) (most : Int) (hs : Sl.ok s) (H : Hp) : Runs Try.prog pol 44 [.val (slV VV.str s), .val (iv most)] H ([.val (iv (names s.list most).1), .val (iv (names s.list most).2)], [], H) := by
  unfold Sl.ok at hs
  refine Runs.told (fn := Try.f44) (n := 39) [(0, .val (slV VV.str s)), (1, .val (iv most))] [(0, .gone 0), (1, .gone 0)] rfl Try.func44 rfl rfl (by kernel_rfl) rfl (by repeat' constructor) (by repeat' constructor) ?_
  repeat' (first
    | intro _
    | refine Ws ?_
    | (refine Wt ?_ ?_ <;> intro _ <;> try (exfalso; omega))
    | (refine Wu ?_ ?_ <;> intro _)
    | refine Wv ?_
    | refine Wz ?_
    | fail)
  · simp [names, *]
  refine Wx.loop [0, 14, 15] [0, 1] (fun k => [(16, .val (iv (k : Nat)))]) (fun k => []) (fun k => k ≤ s.list.length ∧ ∀ j, j < k → nameBad s.list j = none) (fun k => s.list.length - k) 0 ⟨Nat.zero_le _, fun _ h => by omega⟩ (fun k x y hG => ?_)
  obtain ⟨h1, h2⟩ := hG
  dsimp only [List.cons_append, List.nil_append]
  repeat' (first
    | intro _
    | refine Ws ?_
    | (refine Wt ?_ ?_ <;> intro _ <;> try (exfalso; omega))
    | (refine Wu ?_ ?_ <;> intro _)
    | refine Wo.callB (r_Name _) (fun _ => ?_) (fun _ => ?_)
    | refine Wv ?_
    | refine Wz ?_
    | fail)
  · rename_i hk a ha hn s2 hs2
    have hl : s2.list.length = k := by rw [hs2, List.length_take]; omega
    refine Wx.loop [0, 6, 7, 14, 15, 16, 17, 18, 19, 20, 21, 22, 23, 24, 25, 26, 27, 28, 38] [0, 1, 22] (fun m => [(29, .val (iv (m : Nat)))]) (fun m => []) (fun m => m ≤ k ∧ ∀ j, j < m → ∀ o, s.list[j]? = some o → decide (o = a) = false) (fun m => k - m) 0 ⟨Nat.zero_le _, fun _ h => by omega⟩ (fun m x y hG => ?_)
    obtain ⟨h3, h4⟩ := hG
    dsimp only [List.cons_append, List.nil_append]
    repeat' (first
      | intro _
      | refine Ws ?_
      | (refine Wt ?_ ?_ <;> intro _ <;> try (exfalso; omega))
      | (refine Wu ?_ ?_ <;> intro _)
      | refine Wv ?_
      | refine Wz ?_
      | fail)
    · rename_i o ho he
      rw [hs2] at ho
      have ho := take_at ho
      simp only [Int.toNat_natCast] at ho ha
      have hb := scan_found (p := nameBad s.list) (b := 9) h2 (by subst he; simp [nameBad, ha, hn, any_took (p := fun o' => decide (o' = o)) ho.1 ho.2 (decide_eq_true rfl)]) (n := s.list.length) (by omega)
      simp [names, hb, *]
    · rename_i o ho he
      rw [hs2] at ho
      have ho := take_at ho
      simp only [Int.toNat_natCast] at ho
      refine Rd (m + 1) (by omega) ⟨by omega, fun j hj o' ho' => ?_⟩
      rcases Nat.lt_succ_iff_lt_or_eq.1 hj with h | rfl
      · exact h4 j h o' ho'
      · rw [ho.2] at ho'; cases ho'; exact decide_eq_false he
    · simp only [Int.toNat_natCast] at ha
      refine Rd (k + 1) (by omega) ⟨by omega, none_succ h2 ?_⟩
      have hm : m = k := by omega
      subst hm
      simp [nameBad, ha, hn, any_take h4]
  · rename_i hk a ha hn
    simp only [Int.toNat_natCast] at ha
    have hb := scan_found (p := nameBad s.list) (b := 6) h2 (by simp [nameBad, ha, hn]) (n := s.list.length) (by omega)
    simp [names, hb, *]
  · have hb := scan_none (p := nameBad s.list) (n := s.list.length) (fun j hj => h2 j (by omega))
    simp [names, hb, *]

/-- the same number is in the list ahead of a place -/
def fromBad (l : List Int) (states : Int) (i : Nat) : Option Int :=
  match l[i]? with
  | some s => if s < 0 ∨ states ≤ s then some 3 else if (l.take i).any (fun o => decide (o = s)) then some 9 else none
  | none => none
def from' (l : List Int) (states : Int) : Int × Int := first0 (scan (fromBad l states) l.length)

theorem r_from (s : Sl Int) (n : Int) (hs : Sl.ok s) (H : Hp) : Runs Try.prog pol 48 [.val (slV iv s), .val (iv n)] H ([.val (iv (from' s.list n).1), .val (iv (from' s.list n).2)], [], H) := by
  unfold Sl.ok at hs
  refine Runs.told (fn := Try.f48) (n := 39) [(0, .val (slV iv s)), (1, .val (iv n))] [(0, .gone 0), (1, .gone 0)] rfl Try.func48 rfl rfl (by kernel_rfl) rfl (by repeat' constructor) (by repeat' constructor) ?_
  repeat' (first
    | intro _
    | refine Ws ?_
    | (refine Wt ?_ ?_ <;> intro _ <;> try (exfalso; omega))
    | (refine Wu ?_ ?_ <;> intro _)
    | refine Wv ?_
    | refine Wz ?_
    | fail)
  refine Wx.loop [0, 1, 10, 11] [0, 1] (fun k => [(12, .val (iv (k : Nat)))]) (fun k => []) (fun k => k ≤ s.list.length ∧ ∀ j, j < k → fromBad s.list n j = none) (fun k => s.list.length - k) 0 ⟨Nat.zero_le _, fun _ h => by omega⟩ (fun k x y hG => ?_)
  obtain ⟨h1, h2⟩ := hG
  dsimp only [List.cons_append, List.nil_append]
  repeat' (first
    | intro _
    | refine Ws ?_
    | (refine Wt ?_ ?_ <;> intro _ <;> try (exfalso; omega))
    | (refine Wu ?_ ?_ <;> intro _)
    | refine Wv ?_
    | refine Wz ?_
    | fail)
  · rename_i hk a ha hn
    simp only [Int.toNat_natCast] at ha
    have hb := scan_found (p := fromBad s.list n) (b := 3) h2 (by simp [fromBad, ha, hn]) (n := s.list.length) (by omega)
    simp [from', first0, hb]
  · rename_i hk a ha hn hn2
    simp only [Int.toNat_natCast] at ha
    have hb := scan_found (p := fromBad s.list n) (b := 3) h2 (by simp only [fromBad, ha]; rw [if_pos (.inr hn2)]) (n := s.list.length) (by omega)
    simp [from', first0, hb]
  · rename_i hk a ha hn hn2 s2 hs2
    have hl : s2.list.length = k := by rw [hs2, List.length_take]; omega
    have hnn : ¬ (a < 0 ∨ n ≤ a) := by omega
    refine Wx.loop [0, 1, 6, 7, 10, 11, 12, 13, 14, 15, 16, 17, 18, 19, 20, 21, 22, 23, 24, 25, 26, 27, 28, 38] [0, 1] (fun m => [(29, .val (iv (m : Nat)))]) (fun m => []) (fun m => m ≤ k ∧ ∀ j, j < m → ∀ o, s.list[j]? = some o → decide (o = a) = false) (fun m => k - m) 0 ⟨Nat.zero_le _, fun _ h => by omega⟩ (fun m x y hG => ?_)
    obtain ⟨h3, h4⟩ := hG
    dsimp only [List.cons_append, List.nil_append]
    repeat' (first
      | intro _
      | refine Ws ?_
      | (refine Wt ?_ ?_ <;> intro _ <;> try (exfalso; omega))
      | (refine Wu ?_ ?_ <;> intro _)
      | refine Wv ?_
      | refine Wz ?_
      | fail)
    · rename_i o ho he
      rw [hs2] at ho
      have ho := take_at ho
      simp only [Int.toNat_natCast] at ho ha
      have hb := scan_found (p := fromBad s.list n) (b := 9) h2 (by subst he; simp [fromBad, ha, hnn, any_took (p := fun o' => decide (o' = o)) ho.1 ho.2 (decide_eq_true rfl)]) (n := s.list.length) (by omega)
      simp [from', first0, hb]
    · rename_i o ho he
      rw [hs2] at ho
      have ho := take_at ho
      simp only [Int.toNat_natCast] at ho
      refine Rd (m + 1) (by omega) ⟨by omega, fun j hj o' ho' => ?_⟩
      rcases Nat.lt_succ_iff_lt_or_eq.1 hj with h | rfl
      · exact h4 j h o' ho'
      · rw [ho.2] at ho'; cases ho'; exact decide_eq_false he
    · simp only [Int.toNat_natCast] at ha
      refine Rd (k + 1) (by omega) ⟨by omega, none_succ h2 ?_⟩
      have hm : m = k := by omega
      subst hm
      simp [fromBad, ha, any_take h4]; omega
  · have hb := scan_none (p := fromBad s.list n) (n := s.list.length) (fun j hj => h2 j (by omega))
    simp [from', first0, hb]
end Go.Vi.CYtdfhbmallnegfaa
