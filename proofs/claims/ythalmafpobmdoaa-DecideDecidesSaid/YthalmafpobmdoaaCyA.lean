/-
  What instructions make of numbers that are values: the program's.
-/
import Derived.Test.YthalmafpobmdoaaCxD
import Derived.Test.YthalmafpobmdoaaV4
namespace Go.Vi.CYthalmafpobmdoaa
open Go.Vi Go.Proofs Go.Proofs.Ythalmafpobmdoaa
set_option linter.unusedVariables false
set_option maxHeartbeats 8000000
set_option maxRecDepth 100000
set_option linter.unusedSimpArgs false

theorem absmul (x y : Int) (X Y : Nat) (hx : x.natAbs ≤ X) (hy : y.natAbs ≤ Y) : (x * y).natAbs ≤ X * Y := by
  rw [Int.natAbs_mul]; exact Nat.mul_le_mul hx hy
theorem valueOk_abs (n : Int) : valueOk n = true ↔ n.natAbs ≤ 1099511627776 := by simp only [valueOk, Bool.and_eq_true, decide_eq_true_eq]; omega
theorem mul_val (a b : Int) (hb0 : b ≠ 0) : ((a.natAbs : Int) > (1099511627776 : Int).tdiv (b.natAbs : Int)) ↔ ¬ ((a * b).natAbs ≤ 1099511627776) := by
  have hB : 0 < b.natAbs := by omega
  have e : (1099511627776 : Int).tdiv (b.natAbs : Int) = ((1099511627776 / b.natAbs : Nat) : Int) := by
    rw [Int.tdiv_eq_ediv_of_nonneg (by omega)]; rfl
  rw [e, Int.natAbs_mul]
  constructor
  · intro h h2
    have h3 : 1099511627776 / b.natAbs < a.natAbs := by omega
    rw [Nat.div_lt_iff_lt_mul hB] at h3
    omega
  · intro h
    have h3 : 1099511627776 / b.natAbs < a.natAbs := by
      rw [Nat.div_lt_iff_lt_mul hB]; omega
    omega
theorem halves (b : Int) : b.tdiv 1048576 * 1048576 + b.tmod 1048576 = b ∧ (b.tdiv 1048576).natAbs * 1048576 ≤ b.natAbs ∧ (b.tmod 1048576).natAbs < 1048576 := by
  rcases Int.le_total 0 b with h | h
  · rw [Int.tdiv_eq_ediv_of_nonneg h, Int.tmod_eq_emod_of_nonneg h]; omega
  · obtain ⟨c, rfl⟩ : ∃ c : Int, b = -c := ⟨-b, by omega⟩
    have hc : 0 ≤ c := by omega
    rw [Int.neg_tdiv, Int.neg_tmod, Int.tdiv_eq_ediv_of_nonneg hc, Int.tmod_eq_emod_of_nonneg hc]; omega
theorem times_split (a b : Int) (ha : a.natAbs ≤ 1099511627776) (hb : b.natAbs ≤ 1099511627776) :
   (a * b.tdiv 1048576).natAbs ≤ 1099511627776 * 1048576 ∧ (a * b.tmod 1048576).natAbs ≤ 1099511627776 * 1048576 ∧ (a * b.tdiv 1048576) * 1048576 + a * b.tmod 1048576 = a * b ∧ (2097152 < (a * b.tdiv 1048576).natAbs → 1099511627776 < (a * b).natAbs) := by
  obtain ⟨h3, h4, h5⟩ := halves b
  refine ⟨absmul _ _ _ _ ha (by omega), absmul _ _ _ _ ha (by omega), ?_, fun h => ?_⟩
  · rw [Int.mul_assoc, ← Int.mul_add, h3]
  · rw [Int.natAbs_mul] at h ⊢
    have h5 : a.natAbs * ((b.tdiv 1048576).natAbs * 1048576) ≤ a.natAbs * b.natAbs := Nat.mul_le_mul_left _ h4
    rw [← Nat.mul_assoc] at h5
    omega

theorem mx_abs (a : Int) : mxI a (0 - a) = (a.natAbs : Int) := by unfold mxI; split <;> omega
def tr (b : Bool) : Int := if b = true then 1 else 0
theorem r_truth (b : Bool) (H : Hp) : Runs Try.prog pol 72 [.val (.bool b)] H ([.val (iv (tr b))], [], H) := by
  cases b
  · refine Runs.told (fn := Try.f72) (n := 4) [(0, .val (.bool false))] [(0, .gone 0)] rfl Try.func72 rfl rfl (by kernel_rfl) rfl (by repeat' constructor) (by repeat' constructor) ?_
    repeat' (first
      | intro _
      | refine Ws ?_
      | (refine Wt ?_ ?_ <;> intro _ <;> try (exfalso; omega))
      | (refine Wu ?_ ?_ <;> intro _)
      | refine Wv ?_
      | refine Wz ?_
      | fail)
    rfl
  · refine Runs.told (fn := Try.f72) (n := 4) [(0, .val (.bool true))] [(0, .gone 0)] rfl Try.func72 rfl rfl (by kernel_rfl) rfl (by repeat' constructor) (by repeat' constructor) ?_
    repeat' (first
      | intro _
      | refine Ws ?_
      | (refine Wt ?_ ?_ <;> intro _ <;> try (exfalso; omega))
      | (refine Wu ?_ ?_ <;> intro _)
      | refine Wv ?_
      | refine Wz ?_
      | fail)
    rfl
theorem r_mul (a b : Int) (ha : valueOk a = true) (hb : valueOk b = true) (H : Hp) : Runs Try.prog pol 79 [.val (.agg [iv a, iv b])] H ([.val (iv (if valueOk (a * b) then a * b else 0)), .val (.bool (valueOk (a * b)))], [], H) := by
  rw [valueOk_abs] at ha hb
  have hab := absmul a b _ _ ha hb
  refine Runs.told (fn := Try.f79) (n := 31) [(0, .val (.agg [iv a, iv b]))] [(0, .gone 0)] rfl Try.func79 rfl rfl (by kernel_rfl) rfl (by repeat' constructor) (by repeat' constructor) ?_
  repeat' (first
    | intro _
    | refine Ws ?_
    | (refine Wt ?_ ?_ <;> intro _ <;> try (exfalso; omega))
    | (refine Wu ?_ ?_ <;> intro _)
    | refine Wo.neg ?_
    | refine Wo.max ?_
    | refine Wv ?_
    | refine Wz ?_
    | fail)
  · rename_i h; subst h; simp [valueOk]
  · rename_i h; subst h; simp [valueOk]
  rename_i ha0 hb0
  rw [mx_abs, mx_abs]
  have hq : (1099511627776 : Int).tdiv (b.natAbs : Int) ≤ 1099511627776 ∧ 0 ≤ (1099511627776 : Int).tdiv (b.natAbs : Int) := by
    rw [Int.tdiv_eq_ediv_of_nonneg (by omega)]
    exact ⟨Int.ediv_le_self _ (by omega), Int.ediv_nonneg (by omega) (by omega)⟩
  refine Wo.quo ?_ (hb := by omega)
  have hm := mul_val a b hb0
  repeat' (first
    | intro _
    | refine Ws ?_
    | (refine Wt ?_ ?_ <;> intro _ <;> try (exfalso; omega))
    | (refine Wu ?_ ?_ <;> intro _)
    | refine Wv ?_
    | refine Wz ?_
    | fail)
  · rename_i hgt
    have hv : valueOk (a * b) = false := by
      cases hh : valueOk (a * b) with
      | false => rfl
      | true => exact absurd ((valueOk_abs _).1 hh) (hm.1 hgt)
    rw [hv]; rfl
  · rename_i hgt
    have hle : (a * b).natAbs ≤ 1099511627776 := Decidable.of_not_not fun h => hgt (hm.2 h)
    have hv : valueOk (a * b) = true := (valueOk_abs _).2 hle
    rw [wrap64 (by omega), hv]; rfl
/-- what an instruction makes of two numbers -/
def doesN (op a b : Int) : Int :=
  if op = 6 then a + b else if op = 7 then a - b else if op = 8 then (if valueOk (a * b) then a * b else 0) else if op = 9 then mnI a b else if op = 10 then mxI a b
  else if op = 11 then tr (decide (a < b)) else if op = 12 then tr (decide (a ≤ b)) else if op = 13 then tr (decide (a = b)) else if op = 14 then tr (!decide (a = 0) && !decide (b = 0)) else if op = 15 then tr (!decide (a = 0) || !decide (b = 0)) else 0
def doesB (op a b : Int) : Bool := if op = 8 then valueOk (a * b) else valueOk (doesN op a b)
theorem r_does (op a b : Int) (ha : valueOk a = true) (hb : valueOk b = true) (H : Hp) : Runs Try.prog pol 73 [.val (.agg [iv a, iv b]), .val (iv op)] H ([.val (iv (doesN op a b)), .val (.bool (doesB op a b))], [], H) := by
  have ha' := (valueOk_abs _).1 ha
  have hb' := (valueOk_abs _).1 hb
  refine Runs.told (fn := Try.f73) (n := 91) [(0, .val (.agg [iv a, iv b])), (1, .val (iv op))] [(0, .gone 0), (1, .gone 0)] rfl Try.func73 rfl rfl (by kernel_rfl) rfl (by repeat' constructor) (by repeat' constructor) ?_
  repeat' (first
    | intro _
    | refine Ws ?_
    | (refine Wt ?_ ?_ <;> intro _ <;> try (exfalso; omega))
    | (refine Wu ?_ ?_ <;> intro _)
    | refine Wo.call0 (r_mul _ _ ha hb) ?_
    | refine Wo.call0 (r_truth _) ?_
    | refine Wo.call0 (r_value3 _) ?_
    | refine Wo.min ?_
    | refine Wo.max ?_
    | refine Wv ?_
    | refine Wz ?_
    | fail)
  all_goals first
    | (simp [doesN, doesB, *]; done)
    | (simp_all [doesN, doesB, tr]; done)
    | trace_state
theorem r_made1 (op a : Int) (ho : op = 4 ∨ op = 5) (ha : valueOk a = true) (H : Hp) : Runs Try.prog pol 54 [.val (iv op), .val (.lst ([a].map iv))] H ([.val (iv (if op = 4 then 0 - a else tr (decide (a = 0)))), .val (.bool true)], [], H) := by
  have ha' := (valueOk_abs _).1 ha
  refine Runs.told (fn := Try.f54) (n := 46) [(0, .val (iv op)), (1, .val (.lst ([a].map iv)))] [(0, .gone 0), (1, .gone 0)] rfl Try.func54 rfl rfl (by kernel_rfl) rfl (by repeat' constructor) (by repeat' constructor) ?_
  repeat' (first
    | intro _
    | refine Ws ?_
    | (refine Wt ?_ ?_ <;> intro _ <;> try (exfalso; omega))
    | (refine Wu ?_ ?_ <;> intro _)
    | refine Wo.neg ?_
    | refine Wo.call0 (r_truth _) ?_
    | refine Wv ?_
    | refine Wz ?_
    | fail)
  all_goals first
    | (simp [*]; done)
    | trace_state
theorem r_made2 (op a b : Int) (ho : 6 ≤ op ∧ op ≤ 15) (ha : valueOk a = true) (hb : valueOk b = true) (H : Hp) : Runs Try.prog pol 54 [.val (iv op), .val (.lst ([a, b].map iv))] H ([.val (iv (doesN op a b)), .val (.bool (doesB op a b))], [], H) := by
  refine Runs.told (fn := Try.f54) (n := 46) [(0, .val (iv op)), (1, .val (.lst ([a, b].map iv)))] [(0, .gone 0), (1, .gone 0)] rfl Try.func54 rfl rfl (by kernel_rfl) rfl (by repeat' constructor) (by repeat' constructor) ?_
  repeat' (first
    | intro _
    | refine Ws ?_
    | (refine Wt ?_ ?_ <;> intro _ <;> try (exfalso; omega))
    | (refine Wu ?_ ?_ <;> intro _)
    | refine Wo.bind ?_
    | refine Wo.call0 (r_does _ _ _ ha hb) ?_
    | refine Wv ?_
    | refine Wz ?_
    | fail)
  all_goals first
    | rfl
    | (exfalso; omega)
    | trace_state
theorem r_made3 (a b c : Int) (H : Hp) : Runs Try.prog pol 54 [.val (iv 16), .val (.lst ([a, b, c].map iv))] H ([.val (iv (if a = 0 then c else b)), .val (.bool true)], [], H) := by
  refine Runs.told (fn := Try.f54) (n := 46) [(0, .val (iv 16)), (1, .val (.lst ([a, b, c].map iv)))] [(0, .gone 0), (1, .gone 0)] rfl Try.func54 rfl rfl (by kernel_rfl) rfl (by repeat' constructor) (by repeat' constructor) ?_
  repeat' (first
    | intro _
    | refine Ws ?_
    | (refine Wt ?_ ?_ <;> intro _ <;> try (exfalso; omega))
    | (refine Wu ?_ ?_ <;> intro _)
    | refine Wv ?_
    | refine Wz ?_
    | fail)
  all_goals first
    | (simp [*]; done)
    | trace_state
end Go.Vi.CYthalmafpobmdoaa
