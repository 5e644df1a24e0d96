/-
  A step: the program.
-/
import Derived.Test.YthalmafpobmdoaaCyM
namespace Go.Vi.CYthalmafpobmdoaa
open Go.Vi Go.Proofs Go.Proofs.Ythalmafpobmdoaa
set_option linter.unusedVariables false
set_option maxHeartbeats 8000000
set_option maxRecDepth 100000
set_option linter.unusedSimpArgs false

theorem r_step_no (p : Sp) (a : Int) (v args : Sl Int) (hp : p.ok) (hv : v.list.length ≤ 1073741824) (ha : Sl.ok args) (hset : ∀ (j : Nat) (y : St), p.sets.list[j]? = some y → 0 ≤ y.var ∧ y.var < v.list.length) (hst : stepS p a v.list args.list = none) (H : Hp) :
    Runs Try.prog pol 24 [.box [iv a, slV iv v, slV iv args] 0, .val (spV p)] H ([.val (.bool false)], [.box [iv a, slV iv v, slV iv args] 0], H) := by
  have hv' : Sl.ok v := by unfold Sl.ok; omega
  have hsl := hp.1.1
  unfold Sl.ok at hsl
  refine Runs.told (fn := Try.f24) (n := 63) [(0, .loc 0 1 0), (1, .val (spV p))] [(0, .box 1 [.val (iv a), .val (slV iv v), .val (slV iv args)] true), (1, .gone 0)] rfl Try.func24 rfl rfl (by kernel_rfl) rfl (by repeat' constructor) (by repeat' constructor) ?_
  repeat' (first
    | intro _
    | refine Ws ?_
    | (refine Wt ?_ ?_ <;> intro _ <;> try (exfalso; omega))
    | (refine Wu ?_ ?_ <;> intro _)
    | refine Wo.copyA (enc := iv) ?_
    | refine Wv ?_
    | refine Wz ?_
    | fail)
  rename_i g1 g2
  have hset0 : setAt p.sets.list v.list args.list p.sets.list.length = none := by
    unfold stepS at hst
    cases h : setAt p.sets.list v.list args.list p.sets.list.length with
    | none => rfl
    | some nx => rw [h] at hst; cases hst
  refine Wx.loop [0, 3, 5, 23, 24, 51, 52, 53, 54, 55, 56, 57, 58, 59, 60, 61, 62] [0, 1, 3] (fun (k, nx) => [(25, .val (iv (k : Nat)))]) (fun (k, nx) => [(15, .row g2 (nx.map iv) 1 false)]) (fun (k, nx) => k ≤ p.sets.list.length ∧ setAt p.sets.list v.list args.list k = some nx) (fun (k, nx) => p.sets.list.length - k) (0, v.list) ⟨Nat.zero_le _, rfl⟩ (fun a x y hG => ?_)
  obtain ⟨k, nx⟩ := a
  obtain ⟨h1, h2⟩ := hG
  dsimp only [List.cons_append, List.nil_append]
  have hnl := setAt_len h2
  rcases Nat.lt_or_ge k p.sets.list.length with hk | hk
  · obtain ⟨z, hz⟩ := at_some hk
    have hzo := (hp.1.2 z (List.mem_of_getElem? hz)).2.1
    have hzv := hset k z hz
    repeat' (first
      | intro _
      | refine Ws ?_
      | (refine Wt ?_ ?_ <;> intro _ <;> try (exfalso; omega))
      | (refine Wu ?_ ?_ <;> intro _)
      | refine Wo.call0 (r_Eval _ _ _ hzo hv' ha) ?_
      | refine Wv ?_
      | refine Wz ?_
      | fail)
    · rename_i he
      exact Rd (k + 1, nx.set (0 + z.var.toNat) (eEval z.value.list v.list args.list).1) (by dsimp only; omega) ⟨by dsimp only; omega, by dsimp only; rw [setAt, h2, hz, Nat.zero_add]; exact if_pos he⟩
    · exact Wl.retB rfl
  · have hkk : k = p.sets.list.length := by omega
    subst hkk
    rw [hset0] at h2; cases h2
theorem r_step_yes (p : Sp) (a : Int) (v args : Sl Int) (hp : p.ok) (hv : v.list.length ≤ 1073741824) (ha : Sl.ok args) (hset : ∀ (j : Nat) (y : St), p.sets.list[j]? = some y → 0 ≤ y.var ∧ y.var < v.list.length) {a' : Int} {v' : List Int} (hst : stepS p a v.list args.list = some (a', v')) (H : Hp) :
    Runs Try.prog pol 24 [.box [iv a, slV iv v, slV iv args] 0, .val (spV p)] H ([.val (.bool true)], [.box [iv a', .lst (v'.map iv), slV iv args] 0], H) := by
  have hv' : Sl.ok v := by unfold Sl.ok; omega
  have hsl := hp.1.1
  unfold Sl.ok at hsl
  refine Runs.told (fn := Try.f24) (n := 63) [(0, .loc 0 1 0), (1, .val (spV p))] [(0, .box 1 [.val (iv a), .val (slV iv v), .val (slV iv args)] true), (1, .gone 0)] rfl Try.func24 rfl rfl (by kernel_rfl) rfl (by repeat' constructor) (by repeat' constructor) ?_
  repeat' (first
    | intro _
    | refine Ws ?_
    | (refine Wt ?_ ?_ <;> intro _ <;> try (exfalso; omega))
    | (refine Wu ?_ ?_ <;> intro _)
    | refine Wo.copyA (enc := iv) ?_
    | refine Wv ?_
    | refine Wz ?_
    | fail)
  rename_i g1 g2
  have hset0 : setAt p.sets.list v.list args.list p.sets.list.length = some v' ∧ a' = if 0 ≤ p.to then p.to else a := by
    unfold stepS at hst
    cases h : setAt p.sets.list v.list args.list p.sets.list.length with
    | none => rw [h] at hst; cases hst
    | some nx => rw [h] at hst; simp only [Option.some.injEq, Prod.mk.injEq] at hst; exact ⟨by rw [hst.2], hst.1.symm⟩
  refine Wx.loop [0, 3, 5, 23, 24, 51, 52, 53, 54, 55, 56, 57, 58, 59, 60, 61, 62] [0, 1, 3] (fun (k, nx) => [(25, .val (iv (k : Nat)))]) (fun (k, nx) => [(15, .row g2 (nx.map iv) 1 false)]) (fun (k, nx) => k ≤ p.sets.list.length ∧ setAt p.sets.list v.list args.list k = some nx) (fun (k, nx) => p.sets.list.length - k) (0, v.list) ⟨Nat.zero_le _, rfl⟩ (fun a x y hG => ?_)
  obtain ⟨k, nx⟩ := a
  obtain ⟨h1, h2⟩ := hG
  dsimp only [List.cons_append, List.nil_append]
  have hnl := setAt_len h2
  rcases Nat.lt_or_ge k p.sets.list.length with hk | hk
  · obtain ⟨z, hz⟩ := at_some hk
    have hzo := (hp.1.2 z (List.mem_of_getElem? hz)).2.1
    have hzv := hset k z hz
    repeat' (first
      | intro _
      | refine Ws ?_
      | (refine Wt ?_ ?_ <;> intro _ <;> try (exfalso; omega))
      | (refine Wu ?_ ?_ <;> intro _)
      | refine Wo.call0 (r_Eval _ _ _ hzo hv' ha) ?_
      | refine Wv ?_
      | refine Wz ?_
      | fail)
    · rename_i he
      exact Rd (k + 1, nx.set (0 + z.var.toNat) (eEval z.value.list v.list args.list).1) (by dsimp only; omega) ⟨by dsimp only; omega, by dsimp only; rw [setAt, h2, hz, Nat.zero_add]; exact if_pos he⟩
    · rename_i he
      have hno : setAt p.sets.list v.list args.list (k + 1) = none := by rw [setAt, h2, hz]; exact if_neg he
      rw [setAt_none hno _ (by omega)] at hset0
      cases hset0.1
  · have hkk : k = p.sets.list.length := by omega
    subst hkk
    obtain ⟨e1, e2⟩ := hset0
    rw [h2] at e1
    simp only [Option.some.injEq] at e1
    subst e1
    repeat' (first
      | intro _
      | refine Ws ?_
      | (refine Wt ?_ ?_ <;> intro _ <;> try (exfalso; omega))
      | (refine Wu ?_ ?_ <;> intro _)
      | refine Wv ?_
      | refine Wz ?_
      | fail)
    · rename_i ht
      have e3 : a' = p.to := by rw [e2]; exact if_pos ht
      subst e3
      exact Wl.retB rfl
    · rename_i ht
      have e3 : a' = a := by rw [e2]; exact if_neg ht
      subst e3
      exact Wl.retB rfl
end Go.Vi.CYthalmafpobmdoaa
