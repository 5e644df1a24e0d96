/-
  The reference's way with two numbers: Times and Made.
-/
import Derived.Test.YthalmafpobmdoaaCyC
namespace Go.Vi.CYthalmafpobmdoaa
open Go.Vi Go.Proofs Go.Proofs.Ythalmafpobmdoaa
set_option linter.unusedVariables false
set_option maxHeartbeats 8000000
set_option maxRecDepth 100000
set_option linter.unusedSimpArgs false

def timN (a b : Int) : Int := if 2097152 < (a * b.tdiv 1048576).natAbs then 0 else a * b
theorem r_Times (a b : Int) (ha : valueOk a = true) (hb : valueOk b = true) (H : Hp) : Runs Try.prog pol 60 [.val (iv a), .val (iv b)] H ([.val (iv (timN a b)), .val (.bool (valueOk (a * b)))], [], H) := by
  have ha' := (valueOk_abs _).1 ha
  have hb' := (valueOk_abs _).1 hb
  obtain ⟨t1, t2, t3, t4⟩ := times_split a b ha' hb'
  obtain ⟨q1, q2, q3⟩ := halves b
  have w1 : IntKind.i64.wrap (b.tdiv 1048576) = b.tdiv 1048576 := wrap64 ⟨by omega, by omega⟩
  have w2 : IntKind.i64.wrap (a * b.tdiv 1048576) = a * b.tdiv 1048576 := wrap64 ⟨by omega, by omega⟩
  have w3 : IntKind.i64.wrap (a * b.tmod 1048576) = a * b.tmod 1048576 := wrap64 ⟨by omega, by omega⟩
  refine Runs.told (fn := Try.f60) (n := 30) [(0, .val (iv a)), (1, .val (iv b))] [(0, .gone 0), (1, .gone 0)] rfl Try.func60 rfl rfl (by kernel_rfl) rfl (by repeat' constructor) (by repeat' constructor) ?_
  repeat' (first
    | intro _
    | refine Ws ?_
    | (refine Wt ?_ ?_ <;> intro _ <;> try (exfalso; omega))
    | (refine Wu ?_ ?_ <;> intro _)
    | refine Wo.rem ?_
    | refine Wo.quo ?_
    | refine Wo.call0 (r_Value3 _) ?_
    | refine Wv ?_
    | refine Wz ?_
    | fail)
  all_goals rename_i g
  all_goals simp only [w1, w2, w3] at g ⊢
  · have hv : valueOk (a * b) = false := by
      cases hv : valueOk (a * b)
      · rfl
      · have := (valueOk_abs _).1 hv; omega
    rw [hv, timN, if_pos (by omega)]
  · have hv : valueOk (a * b) = false := by
      cases hv : valueOk (a * b)
      · rfl
      · have := (valueOk_abs _).1 hv; omega
    rw [hv, timN, if_pos (by omega)]
  · rename_i g2
    rw [w1, w2] at g2
    have w4 : IntKind.i64.wrap (a * b.tdiv 1048576 * 1048576) = a * b.tdiv 1048576 * 1048576 := wrap64 ⟨by omega, by omega⟩
    rw [w4, t3]
    have w5 : IntKind.i64.wrap (a * b) = a * b := wrap64 ⟨by omega, by omega⟩
    rw [w5, timN, if_neg (by omega)]
/-- what two operands come to, in the reference's own way -/
def madN (op a b : Int) : Int := if op = 6 then a + b else if op = 7 then a - b else if op = 8 then timN a b else if op = 9 then mnI a b else if op = 10 then mxI a b
  else if op = 11 then tr (decide (a < b)) else if op = 12 then tr (decide (a ≤ b)) else if op = 13 then tr (decide (a = b)) else if op = 14 then tr (!decide (a = 0) && !decide (b = 0)) else if op = 15 then tr (!decide (a = 0) || !decide (b = 0)) else 0
theorem r_Made1 (op a : Int) (ho : op = 4 ∨ op = 5) (ha : valueOk a = true) (H : Hp) : Runs Try.prog pol 47 [.val (iv op), .val (.lst ([a].map iv))] H ([.val (iv (if op = 4 then 0 - a else tr (decide (a = 0)))), .val (.bool true)], [], H) := by
  have ha' := (valueOk_abs _).1 ha
  refine Runs.told (fn := Try.f47) (n := 110) [(0, .val (iv op)), (1, .val (.lst ([a].map iv)))] [(0, .gone 0), (1, .gone 0)] rfl Try.func47 rfl rfl (by kernel_rfl) rfl (by repeat' constructor) (by repeat' constructor) ?_
  repeat' (first
    | intro _
    | refine Ws ?_
    | (refine Wt ?_ ?_ <;> intro _ <;> try (exfalso; omega))
    | (refine Wu ?_ ?_ <;> intro _)
    | refine Wo.neg ?_
    | refine Wo.call0 (r_one3 _) ?_
    | refine Wv ?_
    | refine Wz ?_
    | fail)
  all_goals first
    | (simp [*]; done)
    | trace_state
theorem doesB_true {op a b : Int} (ho : 9 ≤ op) (ha : a.natAbs ≤ 1099511627776) (hb : b.natAbs ≤ 1099511627776) : doesB op a b = true := by
  unfold doesB
  rw [if_neg (by omega), valueOk_abs]
  unfold doesN mnI mxI tr
  rw [if_neg (by omega), if_neg (by omega), if_neg (by omega)]
  (repeat' split) <;> omega
theorem r_Made2 (op a b : Int) (ho : 6 ≤ op ∧ op ≤ 15) (ha : valueOk a = true) (hb : valueOk b = true) (H : Hp) : Runs Try.prog pol 47 [.val (iv op), .val (.lst ([a, b].map iv))] H ([.val (iv (madN op a b)), .val (.bool (doesB op a b))], [], H) := by
  have ha' := (valueOk_abs _).1 ha
  have hb' := (valueOk_abs _).1 hb
  refine Runs.told (fn := Try.f47) (n := 110) [(0, .val (iv op)), (1, .val (.lst ([a, b].map iv)))] [(0, .gone 0), (1, .gone 0)] rfl Try.func47 rfl rfl (by kernel_rfl) rfl (by repeat' constructor) (by repeat' constructor) ?_
  repeat' (first
    | intro _
    | refine Ws ?_
    | (refine Wt ?_ ?_ <;> intro _ <;> try (exfalso; omega))
    | (refine Wu ?_ ?_ <;> intro _)
    | refine Wo.call0 (r_Times _ _ ha hb) ?_
    | refine Wo.call0 (r_one3 _) ?_
    | refine Wo.call0 (r_Value3 _) ?_
    | refine Wo.min ?_
    | refine Wo.max ?_
    | refine Wv ?_
    | refine Wz ?_
    | fail)
  all_goals first
    | (exfalso; omega)
    | (simp [madN, doesB, doesN, *]; done)
    | (rw [doesB_true (by omega) ha' hb']; simp [madN, *]; done)
    | (rw [doesB_true (by omega) ha' hb']; simp [madN, tr, *] <;> omega)
    | trace_state
theorem r_Made3 (a b c : Int) (H : Hp) : Runs Try.prog pol 47 [.val (iv 16), .val (.lst ([a, b, c].map iv))] H ([.val (iv (if a = 0 then c else b)), .val (.bool true)], [], H) := by
  refine Runs.told (fn := Try.f47) (n := 110) [(0, .val (iv 16)), (1, .val (.lst ([a, b, c].map iv)))] [(0, .gone 0), (1, .gone 0)] rfl Try.func47 rfl rfl (by kernel_rfl) rfl (by repeat' constructor) (by repeat' constructor) ?_
  repeat' (first
    | intro _
    | refine Ws ?_
    | (refine Wt ?_ ?_ <;> intro _ <;> try (exfalso; omega))
    | (refine Wu ?_ ?_ <;> intro _)
    | refine Wv ?_
    | refine Wz ?_
    | fail)
  all_goals first
    | (simp [*]; done)
    | trace_state
theorem madN_does {op a b : Int} (ha : valueOk a = true) (hb : valueOk b = true) (h : doesB op a b = true) : madN op a b = doesN op a b := by
  by_cases e : op = 8
  · subst e
    have h8 : valueOk (a * b) = true := by simpa [doesB] using h
    have t4 := (times_split a b ((valueOk_abs _).1 ha) ((valueOk_abs _).1 hb)).2.2.2
    have h8' := (valueOk_abs _).1 h8
    have e1 : madN 8 a b = timN a b := rfl
    have e2 : doesN 8 a b = if valueOk (a * b) then a * b else 0 := rfl
    rw [e1, e2, if_pos h8, timN, if_neg (by omega)]
  · unfold madN doesN
    rw [if_neg e, if_neg e]
end Go.Vi.CYthalmafpobmdoaa
