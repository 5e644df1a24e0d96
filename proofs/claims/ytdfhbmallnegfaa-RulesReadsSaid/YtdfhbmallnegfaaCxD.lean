/-
  Expressions: which may be.
-/
import Derived.Test.YtdfhbmallnegfaaCxA
namespace Go.Vi.CYtdfhbmallnegfaa
open Go.Vi Go.Proofs Go.Proofs.Ytdfhbmallnegfaa
set_option linter.unusedVariables false
set_option maxHeartbeats 8000000
set_option maxRecDepth 100000
set_option linter.unusedSimpArgs false

def takes (op : Int) : Int := if 1 ≤ op ∧ op ≤ 3 then 0 else if op = 4 ∨ op = 5 then 1 else if 6 ≤ op ∧ op ≤ 15 then 2 else if op = 16 then 3 else -1
def named (op n vars args : Int) : Bool := if op = 1 then valueOk n else if op = 2 then decide (0 ≤ n) && decide (n < vars) else if op = 3 then decide (0 ≤ n) && decide (n < args) else decide (n = 0)
def rowAt (l : List Ins) : Nat → Int
  | 0 => 0
  | k + 1 => rowAt l k + (1 - (match l[k]? with | some i => takes i.op | none => 1))
def ckBad (l : List Ins) (vars args : Int) (i : Nat) : Option Int :=
  match l[i]? with
  | some x => if takes x.op < 0 then some 2 else if named x.op x.n vars args = false then some 3 else if rowAt l i < takes x.op then some 5 else none
  | none => none
def eCheck (l : List Ins) (vars args : Int) : Int × Int :=
  if vars < 0 ∨ args < 0 then (0, 2) else if (31 : Int) < l.length then (0, 4) else
  match scan (ckBad l vars args) l.length with
  | some (i, e) => ((i : Int), e)
  | none => if rowAt l l.length = 1 then (0, 0) else ((l.length : Int), 6)

theorem takes_le (op : Int) : -1 ≤ takes op ∧ takes op ≤ 3 := by
  unfold takes; split <;> (try split) <;> (try split) <;> (try split) <;> omega

theorem r_takes (op : Int) (H : Hp) : Runs Try.prog pol 62 [.val (iv op)] H ([.val (iv (takes op))], [], H) := by
  refine Runs.told (fn := Try.f62) (n := 27) [(0, .val (iv op))] [(0, .gone 0)] rfl Try.func62 rfl rfl (by kernel_rfl) rfl (by repeat' constructor) (by repeat' constructor) ?_
  repeat' (first
    | intro _
    | refine Ws ?_
    | (refine Wt ?_ ?_ <;> intro _ <;> try (exfalso; omega))
    | (refine Wu ?_ ?_ <;> intro _)
    | refine Wv ?_
    | refine Wz ?_
    | fail)
  all_goals (
    unfold takes
    first
      | rw [if_pos (by omega)]
      | rw [if_neg (by omega), if_pos (by omega)]
      | rw [if_neg (by omega), if_neg (by omega), if_pos (by omega)]
      | rw [if_neg (by omega), if_neg (by omega), if_neg (by omega), if_pos (by omega)]
      | rw [if_neg (by omega), if_neg (by omega), if_neg (by omega), if_neg (by omega)])
theorem r_named (op n vars args : Int) (H : Hp) : Runs Try.prog pol 63 [.val (.agg [iv op, iv n]), .val (iv vars), .val (iv args)] H ([.val (.bool (named op n vars args))], [], H) := by
  refine Runs.told (fn := Try.f63) (n := 39) [(0, .val (.agg [iv op, iv n])), (1, .val (iv vars)), (2, .val (iv args))] [(0, .gone 0), (1, .gone 0), (2, .gone 0)] rfl Try.func63 rfl rfl (by kernel_rfl) rfl (by repeat' constructor) (by repeat' constructor) ?_
  repeat' (first
    | intro _
    | refine Ws ?_
    | (refine Wt ?_ ?_ <;> intro _ <;> try (exfalso; omega))
    | (refine Wu ?_ ?_ <;> intro _)
    | refine Wo.callB (r_value3 _) (fun _ => ?_) (fun _ => ?_)
    | refine Wv ?_
    | refine Wz ?_
    | fail)
  all_goals (simp [named, *] <;> omega)
theorem r_RTakes (op : Int) (H : Hp) : Runs Try.prog pol 66 [.val (iv op)] H ([.val (iv (takes op))], [], H) := by
  by_cases h : op < 1 ∨ op > 16
  · refine Runs.told (fn := Try.f66) (n := 15) [(0, .val (iv op))] [(0, .gone 0)] rfl Try.func66 rfl rfl (by kernel_rfl) rfl (by repeat' constructor) (by repeat' constructor) ?_
    repeat' (first
      | intro _
      | refine Ws ?_
      | (refine Wt ?_ ?_ <;> intro _ <;> try (exfalso; omega))
      | (refine Wu ?_ ?_ <;> intro _)
      | refine Wv ?_
      | refine Wz ?_
      | fail)
    all_goals (
      have e : takes op = -1 := by unfold takes; rw [if_neg (by omega), if_neg (by omega), if_neg (by omega), if_neg (by omega)]
      rw [e])
  · have : op = 1 ∨ op = 2 ∨ op = 3 ∨ op = 4 ∨ op = 5 ∨ op = 6 ∨ op = 7 ∨ op = 8 ∨ op = 9 ∨ op = 10 ∨ op = 11 ∨ op = 12 ∨ op = 13 ∨ op = 14 ∨ op = 15 ∨ op = 16 := by omega
    clear h
    rcases this with rfl | rfl | rfl | rfl | rfl | rfl | rfl | rfl | rfl | rfl | rfl | rfl | rfl | rfl | rfl | rfl <;> (
    refine Runs.told (fn := Try.f66) (n := 15) [(0, .val (iv _))] [(0, .gone 0)] rfl Try.func66 rfl rfl (by kernel_rfl) rfl (by repeat' constructor) (by repeat' constructor) ?_
    repeat' (first
      | intro _
      | refine Ws ?_
      | (refine Wt ?_ ?_ <;> intro _ <;> try (exfalso; omega))
      | (refine Wu ?_ ?_ <;> intro _)
      | refine Wv ?_
      | refine Wz ?_
      | fail)
    all_goals rfl)
theorem ck_takes {l : List Ins} {vars args : Int} {k : Nat} {x : Ins} (hx : l[k]? = some x) (h1 : ¬ takes x.op < 0) (h2 : named x.op x.n vars args = true) (h3 : ¬ rowAt l k < takes x.op) : ckBad l vars args k = none := by
  simp only [ckBad, hx, h1, h2, h3, if_false]; simp
theorem rowAt_succ {l : List Ins} {k : Nat} {x : Ins} (hx : l[k]? = some x) : rowAt l (k + 1) = rowAt l k + (1 - takes x.op) := by simp only [rowAt, hx]
theorem r_Check3 (s : Sl Ins) (vars args : Int) (hs : Sl.ok s) (H : Hp) : Runs Try.prog pol 59 [.val (slV insV s), .val (iv vars), .val (iv args)] H ([.val (iv (eCheck s.list vars args).1), .val (iv (eCheck s.list vars args).2)], [], H) := by
  unfold Sl.ok at hs
  refine Runs.told (fn := Try.f59) (n := 58) [(0, .val (slV insV s)), (1, .val (iv vars)), (2, .val (iv args))] [(0, .gone 0), (1, .gone 0), (2, .gone 0)] rfl Try.func59 rfl rfl (by kernel_rfl) rfl (by repeat' constructor) (by repeat' constructor) ?_
  repeat' (first
    | intro _
    | refine Ws ?_
    | (refine Wt ?_ ?_ <;> intro _ <;> try (exfalso; omega))
    | (refine Wu ?_ ?_ <;> intro _)
    | refine Wv ?_
    | refine Wz ?_
    | fail)
  · simp [eCheck, *]
  · simp [eCheck, *]
  · rename_i a b c
    have h0 : ¬ (vars < 0 ∨ args < 0) := by omega
    simp only [eCheck]; rw [if_neg h0, if_pos (by omega)]
  rename_i ha hb hc
  have h0 : ¬ (vars < 0 ∨ args < 0) := by omega
  have h31 : ¬ (31 : Int) < s.list.length := by omega
  refine Wx.loop [0, 1, 2, 23, 24, 54, 55, 56, 57] [0, 1, 2] (fun (k, r) => [(25, .val (iv (k : Nat))), (8, .val (iv r))]) (fun (k, r) => []) (fun (k, r) => k ≤ s.list.length ∧ (∀ j, j < k → ckBad s.list vars args j = none) ∧ r = rowAt s.list k ∧ 0 ≤ r ∧ r ≤ k) (fun (k, r) => s.list.length - k) (0, 0) ⟨Nat.zero_le _, fun _ h => by omega, rfl, by omega, by omega⟩ (fun a x y hG => ?_)
  obtain ⟨k, r⟩ := a
  obtain ⟨h1, h2, h5, h3, h4⟩ := hG
  dsimp only [List.cons_append, List.nil_append]
  repeat' (first
    | intro _
    | refine Ws ?_
    | (refine Wt ?_ ?_ <;> intro _ <;> try (exfalso; omega))
    | (refine Wu ?_ ?_ <;> intro _)
    | refine Wo.call0 (r_takes _) ?_
    | refine Wo.callB (r_named _ _ _ _) (fun _ => ?_) (fun _ => ?_)
    | refine Wv ?_
    | refine Wz ?_
    | fail)
  · rename_i hk x hx _ ht
    simp only [Int.toNat_natCast] at hx
    have hb := scan_found (p := ckBad s.list vars args) (b := 2) h2 (by simp [ckBad, hx, ht]) (n := s.list.length) (by omega)
    simp [eCheck, h0, h31, hb]
  · rename_i hk x hx _ ht hn hr
    simp only [Int.toNat_natCast] at hx
    have hb := scan_found (p := ckBad s.list vars args) (b := 5) h2 (by simp [ckBad, hx, ht, hn, ← h5, hr]) (n := s.list.length) (by omega)
    simp [eCheck, h0, h31, hb]
  · rename_i hk x hx _ ht hn hr
    simp only [Int.toNat_natCast] at hx
    have ht3 := takes_le x.op
    exact Rd (k + 1, r + (1 - takes x.op)) (by dsimp only; omega) ⟨by omega, none_succ h2 (ck_takes hx ht hn (by rw [← h5]; exact hr)), by rw [rowAt_succ hx, h5], by omega, by omega⟩
  · rename_i hk x hx _ ht hn
    simp only [Int.toNat_natCast] at hx
    have hb := scan_found (p := ckBad s.list vars args) (b := 3) h2 (by simp [ckBad, hx, ht, hn]) (n := s.list.length) (by omega)
    simp [eCheck, h0, h31, hb]
  · rename_i hk hr
    have hb := scan_none (p := ckBad s.list vars args) (n := s.list.length) (fun j hj => h2 j (by omega))
    have e : k = s.list.length := by omega
    subst e
    simp [eCheck, h0, h31, hb, ← h5, hr]
  · rename_i hk hr
    have hb := scan_none (p := ckBad s.list vars args) (n := s.list.length) (fun j hj => h2 j (by omega))
    have e : k = s.list.length := by omega
    subst e
    simp [eCheck, h0, h31, hb, ← h5, hr]
theorem r_RCheck3 (s : Sl Ins) (vars args : Int) (hs : Sl.ok s) (H : Hp) : Runs Try.prog pol 64 [.val (slV insV s), .val (iv vars), .val (iv args)] H ([.val (iv (eCheck s.list vars args).1), .val (iv (eCheck s.list vars args).2)], [], H) := by
  unfold Sl.ok at hs
  refine Runs.told (fn := Try.f64) (n := 88) [(0, .val (slV insV s)), (1, .val (iv vars)), (2, .val (iv args))] [(0, .gone 0), (1, .gone 0), (2, .gone 0)] rfl Try.func64 rfl rfl (by kernel_rfl) rfl (by repeat' constructor) (by repeat' constructor) ?_
  repeat' (first
    | intro _
    | refine Ws ?_
    | (refine Wt ?_ ?_ <;> intro _ <;> try (exfalso; omega))
    | (refine Wu ?_ ?_ <;> intro _)
    | refine Wv ?_
    | refine Wz ?_
    | fail)
  · simp [eCheck, *]
  · simp [eCheck, *]
  · rename_i a b c
    have h0 : ¬ (vars < 0 ∨ args < 0) := by omega
    simp only [eCheck]; rw [if_neg h0, if_pos (by omega)]
  rename_i ha hb hc
  have h0 : ¬ (vars < 0 ∨ args < 0) := by omega
  have h31 : ¬ (31 : Int) < s.list.length := by omega
  refine Wx.loop [0, 1, 2, 84, 85, 86, 87] [0, 1, 2] (fun (k, r) => [(9, .val (iv (k : Nat))), (8, .val (iv r))]) (fun (k, r) => []) (fun (k, r) => k ≤ s.list.length ∧ (∀ j, j < k → ckBad s.list vars args j = none) ∧ r = rowAt s.list k ∧ 0 ≤ r ∧ r ≤ k) (fun (k, r) => s.list.length - k) (0, 0) ⟨Nat.zero_le _, fun _ h => by omega, rfl, by omega, by omega⟩ (fun a x y hG => ?_)
  obtain ⟨k, r⟩ := a
  obtain ⟨h1, h2, h5, h3, h4⟩ := hG
  dsimp only [List.cons_append, List.nil_append]
  rcases Nat.lt_or_ge k s.list.length with hk | hk
  · obtain ⟨z, hz⟩ := at_some hk
    have ht3 := takes_le z.op
    repeat' (first
      | intro _
      | refine Ws ?_
      | (refine Wt ?_ ?_ <;> intro _ <;> try (exfalso; omega))
      | (refine Wu ?_ ?_ <;> intro _)
      | refine Wo.call0 (r_RTakes _) ?_
      | refine Wo.callB (r_Value3 _) (fun _ => ?_) (fun _ => ?_)
      | refine Wv ?_
      | refine Wz ?_
      | fail)
    all_goals first
      | exact Rd (k + 1, r - takes z.op + 1) (by dsimp only; omega) ⟨by omega, none_succ h2 (ck_takes hz (by omega) (by first | (simp_all [named, valueOk]; done) | (simp_all [named, valueOk]; omega)) (by omega)), by rw [rowAt_succ hz]; omega, by omega, by omega⟩
      | (have hb := scan_found (p := ckBad s.list vars args) (b := 2) h2 (by simp only [ckBad, hz]; rw [if_pos (by omega)]) (n := s.list.length) (by omega)
         simp [eCheck, h0, h31, hb]; done)
      | (have hb := scan_found (p := ckBad s.list vars args) (b := 5) h2 (by simp only [ckBad, hz]; rw [if_neg (by omega), if_neg (by first | (simp_all [named, valueOk]; done) | (simp_all [named, valueOk]; omega)), if_pos (by omega)]) (n := s.list.length) (by omega)
         simp [eCheck, h0, h31, hb]; done)
      | (have hb := scan_found (p := ckBad s.list vars args) (b := 3) h2 (by simp only [ckBad, hz]; rw [if_neg (by omega), if_pos (by first | (simp_all [named, valueOk]; done) | (simp_all [named, valueOk]; omega))]) (n := s.list.length) (by omega)
         simp [eCheck, h0, h31, hb]; done)
      | trace_state
  · repeat' (first
      | intro _
      | refine Ws ?_
      | (refine Wt ?_ ?_ <;> intro _ <;> try (exfalso; omega))
      | (refine Wu ?_ ?_ <;> intro _)
      | refine Wv ?_
      | refine Wz ?_
      | fail)
    all_goals (
      have hb := scan_none (p := ckBad s.list vars args) (n := s.list.length) (fun j hj => h2 j (by omega))
      have e : k = s.list.length := by omega
      subst e
      have h6 : rowAt s.list s.list.length = r := h5.symm
      simp only [eCheck, h0, h31, hb, h6, if_false]
      first | (rw [if_pos (by assumption)]; done) | (rw [if_neg (by assumption)]))
end Go.Vi.CYtdfhbmallnegfaa
