/-
  Plain facts of patterns: told by parts from the left, and by what is left open at the end.
-/
import Derived.Test.YtnloddhadlpajaaCpD
namespace Go.Vi.CYtnloddhadlpajaa
open Go.Vi Go.Proofs Go.Proofs.Ytnloddhadlpajaa
set_option linter.unusedVariables false
set_option maxHeartbeats 1000000
set_option maxRecDepth 100000
set_option linter.unusedSimpArgs false

abbrev wMM : ByteArray := ⟨#[42, 42]⟩
def opn : List ByteArray → List ByteArray × Bool
  | [] => ([], false)
  | x :: a => if x = wMM then ([], true) else (x :: (opn a).1, (opn a).2)
def patOk (a : List ByteArray) : Prop := ∀ i, a[i]? = some wMM → i + 1 = a.length
theorem patOk_head {x : ByteArray} {a : List ByteArray} (h : patOk (x :: a)) (hx : x = wMM) : a = [] := by
  have := h 0 (by simp [hx])
  simp at this
  exact this
theorem patOk_tail {x : ByteArray} {a : List ByteArray} (h : patOk (x :: a)) : patOk a := by
  intro i hi
  have := h (i + 1) (by simpa using hi)
  simp at this
  exact this
theorem opn_mm {x : ByteArray} {a : List ByteArray} (h : x = wMM) : opn (x :: a) = ([], true) := by rw [opn, if_pos h]
theorem opn_ne {x : ByteArray} {a : List ByteArray} (h : ¬ x = wMM) : opn (x :: a) = (x :: (opn a).1, (opn a).2) := by rw [opn, if_neg h]
theorem match_eq : ∀ a b : List ByteArray, patOk a → matchL a b = (agR eqR (opn a).1 b && ((opn a).2 || decide ((opn a).1.length = b.length)))
  | [], [], _ => by simp [matchL, opn, agR]
  | [], s :: b, _ => by simp [matchL, opn, agR]
  | x :: a, [], h => by
    by_cases hx : x = wMM
    · rw [opn_mm hx]; simp [matchL, hx, patOk_head h hx, agR]
    · rw [opn_ne hx]; simp [matchL, hx, agR]
  | x :: a, s :: b, h => by
    by_cases hx : x = wMM
    · rw [opn_mm hx]; simp [matchL, hx, agR]
    · rw [opn_ne hx]; simp [matchL, hx, agR, match_eq a b (patOk_tail h), eqR, Bool.and_assoc]
theorem covers_eq : ∀ a b : List ByteArray, patOk a → patOk b → coversL a b = (agR eqR (opn a).1 (opn b).1 && ((opn a).2 || (decide ((opn a).1.length = (opn b).1.length) && !(opn b).2)))
  | [], [], _, _ => by simp [coversL, opn, agR]
  | [], s :: b, _, h => by
    by_cases hs : s = wMM
    · rw [opn_mm hs]; simp [coversL, opn, agR]
    · rw [opn_ne hs]; simp [coversL, opn, agR]
  | x :: a, [], h, _ => by
    by_cases hx : x = wMM
    · rw [opn_mm hx]; simp [coversL, hx, patOk_head h hx, agR]
    · rw [opn_ne hx]; simp [coversL, hx, agR, opn]
  | x :: a, s :: b, h, h2 => by
    by_cases hx : x = wMM
    · rw [opn_mm hx]; simp [coversL, hx, agR, patOk_head h hx]
    · rw [opn_ne hx]
      by_cases hs : s = wMM
      · rw [opn_mm hs]; simp [coversL, hx, hs, agR]
      · rw [opn_ne hs]; simp [coversL, hx, hs, agR, covers_eq a b (patOk_tail h) (patOk_tail h2), eqR, Bool.and_assoc]
def meetF (a b : List ByteArray × Bool) : Bool := agR meR (a.1.take (min a.1.length b.1.length)) (b.1.take (min a.1.length b.1.length)) && (decide (a.1.length = b.1.length) || (decide (a.1.length < b.1.length) && a.2) || (decide (b.1.length < a.1.length) && b.2))
theorem meets_eq : ∀ a b : List ByteArray, patOk a → patOk b → meetsL a b = meetF (opn a) (opn b)
  | [], [], _, _ => by simp [meetsL, opn, agR, meetF]
  | [], s :: b, _, h => by
    by_cases hs : s = wMM
    · rw [opn_mm hs]; simp [meetsL, opn, agR, meetF, hs, patOk_head h hs]
    · rw [opn_ne hs]; simp [meetsL, opn, agR, meetF, hs]
  | x :: a, [], h, _ => by
    by_cases hx : x = wMM
    · rw [opn_mm hx]; simp [meetsL, hx, patOk_head h hx, agR, opn, meetF]
    · rw [opn_ne hx]; simp [meetsL, hx, agR, opn, meetF]
  | x :: a, s :: b, h, h2 => by
    by_cases hx : x = wMM
    · rw [opn_mm hx]; simp [meetsL, hx, agR, patOk_head h hx, meetF]; omega
    · rw [opn_ne hx]
      by_cases hs : s = wMM
      · rw [opn_mm hs]; simp [meetsL, hx, hs, agR, patOk_head h2 hs, meetF]
      · rw [opn_ne hs]
        have e : min ((opn a).1.length + 1) ((opn b).1.length + 1) = min (opn a).1.length (opn b).1.length + 1 := by omega
        simp [meetsL, hx, hs, agR, meets_eq a b (patOk_tail h) (patOk_tail h2), meR, Bool.and_assoc, meetF, e]
theorem opn_is : ∀ a : List ByteArray, a ≠ [] → patOk a → opn a = if a[a.length - 1]? = some wMM then (a.take (a.length - 1), true) else (a, false)
  | [], h, _ => absurd rfl h
  | [x], _, h => by
    by_cases hx : x = wMM
    · rw [opn_mm hx]; simp [hx]
    · rw [opn_ne hx]; simp [hx, opn]
  | x :: y :: a, _, h => by
    have hx : ¬ x = wMM := fun hx => by cases patOk_head h hx
    rw [opn_ne hx, opn_is (y :: a) (by simp) (patOk_tail h)]
    have e : (x :: y :: a)[(x :: y :: a).length - 1]? = (y :: a)[(y :: a).length - 1]? := by simp
    rw [e]
    split <;> simp
theorem plain_mm : plainB wMM = false := by decide
theorem scan_ok {β : Type} {p : Nat → Option β} {n : Nat} (h : scan p n = none) : ∀ i, i < n → p i = none := by
  intro i hi
  cases hpi : p i with
  | none => rfl
  | some e =>
    exfalso
    have key : ∀ m : Nat, m ≤ n → (∃ k e, (∀ j, j < k → p j = none) ∧ p k = some e ∧ k < n) ∨ ∀ j, j < m → p j = none := by
      intro m
      induction m with
      | zero => intro _; exact .inr fun j hj => by omega
      | succ m ih =>
        intro hm
        rcases ih (by omega) with h | h
        · exact .inl h
        · cases hm' : p m with
          | none => exact .inr (none_succ h hm')
          | some e => exact .inl ⟨m, e, h, hm', by omega⟩
    rcases key n (Nat.le_refl _) with h' | h'
    · obtain ⟨k, e', h1, h2, h3⟩ := h'
      rw [scan_found h1 h2 h3] at h; cases h
    · rw [h' i hi] at hpi; cases hpi
theorem pat_ok {s : ByteArray} (h : patternB s = true) : patOk (partsS s).list := by
  simp only [patternB, allB, Bool.and_eq_true, decide_eq_true_eq] at h
  intro i hi
  have hk := (List.getElem?_eq_some_iff.1 hi).1
  have hn := scan_ok (Option.isNone_iff_eq_none.1 h.1.2) i hk
  simp only [allBad, hi] at hn
  by_cases hr : patR i (partsS s).list.length wMM = true
  · simp only [patR, plain_mm, Bool.false_or, Bool.or_eq_true, Bool.and_eq_true, decide_eq_true_eq] at hr
    rcases hr with hr | hr
    · exact absurd hr (by decide)
    · exact hr.2
  · rw [if_neg hr] at hn; cases hn
theorem open_is {s : ByteArray} (h : patternB s = true) : ((openS s).list, openM s) = opn (partsS s).list := by
  have hp := ps_pos s
  have e : (((partsS s).list.length : Nat) - 1 : Int).toNat = (partsS s).list.length - 1 := by omega
  rw [opn_is _ (by intro h0; rw [h0] at hp; simp at hp) (pat_ok h)]
  unfold openS openM
  rw [e]
  by_cases hm : (partsS s).list[(partsS s).list.length - 1]? = some wMM
  · rw [if_pos hm, decide_eq_true hm, if_pos rfl, Sl.list_cut]; rfl
  · rw [if_neg hm, decide_eq_false hm, if_neg (by simp)]
end Go.Vi.CYtnloddhadlpajaa
