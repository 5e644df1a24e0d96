/-
  The reference: least.
-/
import Derived.Test.YtnloddhadlpajaaCpS
import Derived.Test.YtnloddhadlpajaaCpT
import Derived.Test.YtnloddhadlpajaaCpPb
namespace Go.Vi.CYtnloddhadlpajaa
open Go.Vi Go.Proofs Go.Proofs.Ytnloddhadlpajaa
set_option linter.unusedVariables false
set_option maxHeartbeats 4000000
set_option maxRecDepth 100000
set_option linter.unusedSimpArgs false

instance decMemB (s : ByteArray) (l : List ByteArray) : Decidable (s ∈ l) := @List.instDecidableMemOfLawfulBEq _ instBEqOfDecidableEq _ _ _
theorem any_mem {l : List ByteArray} {s : ByteArray} : (l.any fun x => decide (x = s)) = decide (s ∈ l) := by
  rw [Bool.eq_iff_iff]; simp
theorem len_insS {p : ByteArray} : ∀ {l : List ByteArray}, (insS ltB p l).length = l.length + 1
  | [] => rfl
  | x :: r => by
    rw [insS]; split
    · simp
    · simp [len_insS]
def slO (l : List ByteArray) : Sl ByteArray := if l = [] then none else some l
theorem slO_list (l : List ByteArray) : Sl.list (slO l) = l := by
  unfold slO; split
  · subst_vars; rfl
  · rfl
theorem leastF_cons (keep : ByteArray → Bool) (p : ByteArray) (l o : List ByteArray) : leastF ltB keep (p :: l) o = leastF ltB keep l (if decide (p ∈ o) || !keep p then o else insS ltB p o) := rfl
theorem ins_ne (p : ByteArray) (l : List ByteArray) : insS ltB p l ≠ [] := fun h => by have := len_insS (p := p) (l := l); rw [h] at this; cases this
theorem mem_ok {p : ByteArray} {l : List ByteArray} (h : ∀ z ∈ l, strOk z) (hp : strOk p) : ∀ z ∈ insS ltB p l, strOk z := fun z hz => by
  rcases mem_insS.1 hz with e | e
  · rw [e]; exact hp
  · exact h z e
theorem slO_ne {l : List ByteArray} (h : l ≠ []) : slO l = some l := if_neg h
theorem lst_eq {r : List ByteArray} {p : ByteArray} {o : List ByteArray} (h : r = insS ltB p o) : VV.lst (r.map VV.str) = slV VV.str (slO (insS ltB p o)) := by
  rw [slO_ne (ins_ne p o), h]; rfl
theorem r_Least (l : Sl ByteArray) (hl : l.list.length ≤ 1000) (hs : ∀ z ∈ l.list, strOk z) (H : Hp) : Runs Try.prog pol 14 [.val (slV VV.str l)] H ([.val (slV VV.str (slO (leastF ltB (needF l.list) l.list [])))], [], H) := by
  have hlo : Sl.ok l := by unfold Sl.ok; omega
  refine Runs.told (fn := Try.f14) (n := 63) [(0, .val (slV VV.str l))] [(0, .gone 0)] rfl Try.func14 rfl rfl (by kernel_rfl) rfl (by repeat' constructor) (by repeat' constructor) ?_
  repeat' (first
    | intro _
    | refine Ws ?_
    | (refine Wt ?_ ?_ <;> intro _ <;> try (exfalso; omega))
    | (refine Wu ?_ ?_ <;> intro _)
    | refine Wv ?_
    | refine Wz ?_
    | fail)
  refine Wx.loop [0, 2, 62] [0] (fun (i, o) => [(4, .val (iv (i : Nat))), (3, .val (slV VV.str (slO o)))]) (fun (i, o) => []) (fun (i, o) => (i ≤ l.list.length ∧ o.length ≤ i ∧ (∀ z ∈ o, strOk z)) ∧ leastF ltB (needF l.list) (l.list.drop i) o = leastF ltB (needF l.list) l.list []) (fun (i, o) => l.list.length - i) (0, []) ⟨⟨Nat.zero_le _, Nat.le_refl _, fun _ h => by cases h⟩, rfl⟩ (fun a x y hG => ?_)
  obtain ⟨i, o⟩ := a
  obtain ⟨h1, h2⟩ := hG
  dsimp only [List.cons_append, List.nil_append]
  obtain ⟨hi0, hol, hoz⟩ := h1
  have hoe := slO_list o
  generalize hO : slO o = O at hoe ⊢
  have hOl : O.list.length ≤ i := by rw [hoe]; exact hol
  rcases Nat.lt_or_ge i l.list.length with hi | hi
  · obtain ⟨p, hp⟩ := at_some hi
    have hpo := hs p (List.mem_of_getElem? hp)
    rw [drop_at hp, leastF_cons] at h2
    have hoo : Sl.ok O := by unfold Sl.ok; omega
    have r1 := r_has O hoo p
    rw [any_mem, hoe] at r1
    have r2 := r_needed l hlo p
    generalize hb1 : decide (p ∈ o) = b1 at r1 h2
    generalize hb2 : needF l.list p = b2 at r2 h2
    cases b1 <;> cases b2
    rotate_left
    · have h3 : leastF ltB (needF l.list) (l.list.drop (i + 1)) (insS ltB p o) = leastF ltB (needF l.list) l.list [] := h2
      repeat' (first
        | intro _
        | refine Ws ?_
        | (refine Wt ?_ ?_ <;> intro _ <;> try (exfalso; omega))
        | (refine Wu ?_ ?_ <;> intro _)
        | refine Wo.call0 (r1) ?_
        | refine Wo.call0 (r2) ?_
        | refine Wv ?_
        | refine Wz ?_
        | fail)
      refine Wx.loop [0, 2, 3, 4, 5, 9, 10, 11, 12, 13, 14, 15, 16, 17, 18, 19, 20, 21, 22, 23, 24, 25, 26, 27, 55, 56, 57, 58, 59, 60, 61, 62] [21, 25, 59, 60] (fun (k, dn, e, g, r, m) => [(8, .val (iv (k : Nat))), (7, .val (.bool dn)), (6, bif e then .val .nils else .own 54 g 0 m 1)]) (fun (k, dn, e, g, r, m) => [(0, .gone 0), ((bif e then 0 else 54), bif e then .gone 0 else .row g (r.map VV.str) 1 false)]) (fun (k, dn, e, g, r, m) => (k ≤ O.list.length ∧ m = r.length) ∧ (e = true → r = []) ∧ (if dn = true then r ++ O.list.drop k else r ++ insS ltB p (O.list.drop k)) = insS ltB p o) (fun (k, dn, e, g, r, m) => O.list.length - k) (0, false, true, 0, ([] : List ByteArray), 0) ⟨⟨Nat.zero_le _, rfl⟩, fun _ => rfl, by rw [hoe]; rfl⟩ (fun a x y hG => ?_)
      obtain ⟨k, dn, e, g, r, m⟩ := a
      obtain ⟨q1', q2, q3⟩ := hG
      dsimp only [List.cons_append, List.nil_append]
      obtain ⟨q0, hm⟩ := q1'
      subst hm
      have hrl : r.length ≤ o.length + 1 := by
        have h4 := congrArg List.length q3
        rw [len_insS] at h4
        split at h4 <;> rw [List.length_append] at h4 <;> omega
      rcases Nat.lt_or_ge k O.list.length with hk | hk
      · obtain ⟨z, hz⟩ := at_some hk
        have hzo : strOk z := hoz z (by rw [← hoe]; exact List.mem_of_getElem? hz)
        have r3 := r_Less p z hpo hzo
        rw [drop_at hz] at q3
        generalize hb3 : ltB p z = b3 at r3
        have e1 : List.take r.length r = r := List.take_length
        cases e <;> cases dn <;> cases b3
        · simp only [Bool.false_eq_true, if_false, insS, hb3] at q3
          repeat' (first
            | intro _
            | refine Ws ?_
            | (refine Wt ?_ ?_ <;> intro _ <;> try (exfalso; omega))
            | (refine Wu ?_ ?_ <;> intro _)
            | refine Wo.call0 (r3) ?_
            | refine Wv ?_
            | refine Wz ?_
            | fail)
          rw [e1]
          exact Rd (k + 1, false, false, _, r ++ [z], r.length + 1) (by dsimp only; omega) ⟨⟨by dsimp only; omega, by simp⟩, (fun h => (by cases h)), by simpa using q3⟩
        · simp only [Bool.false_eq_true, if_false, if_true, insS, hb3] at q3
          repeat' (first
            | intro _
            | refine Ws ?_
            | (refine Wt ?_ ?_ <;> intro _ <;> try (exfalso; omega))
            | (refine Wu ?_ ?_ <;> intro _)
            | refine Wo.call0 (r3) ?_
            | refine Wo.app1 (fun _ => ?_) (hm := (by simp))
            | refine Wv ?_
            | refine Wz ?_
            | fail)
          have e2 : List.take (r.length + 1) (List.take r.length r ++ [p]) = r ++ [p] := by rw [e1, List.take_of_length_le (by simp)]
          rw [e2]
          exact Rd (k + 1, true, false, _, r ++ [p] ++ [z], r.length + 1 + 1) (by dsimp only; omega) ⟨⟨by dsimp only; omega, by simp⟩, (fun h => (by cases h)), by simpa using q3⟩
        · simp only [if_true] at q3
          repeat' (first
            | intro _
            | refine Ws ?_
            | (refine Wt ?_ ?_ <;> intro _ <;> try (exfalso; omega))
            | (refine Wu ?_ ?_ <;> intro _)
            | refine Wo.call0 (r3) ?_
            | refine Wv ?_
            | refine Wz ?_
            | fail)
          rw [e1]
          exact Rd (k + 1, true, false, _, r ++ [z], r.length + 1) (by dsimp only; omega) ⟨⟨by dsimp only; omega, by simp⟩, (fun h => (by cases h)), by simpa using q3⟩
        · simp only [if_true] at q3
          repeat' (first
            | intro _
            | refine Ws ?_
            | (refine Wt ?_ ?_ <;> intro _ <;> try (exfalso; omega))
            | (refine Wu ?_ ?_ <;> intro _)
            | refine Wo.call0 (r3) ?_
            | refine Wv ?_
            | refine Wz ?_
            | fail)
          rw [e1]
          exact Rd (k + 1, true, false, _, r ++ [z], r.length + 1) (by dsimp only; omega) ⟨⟨by dsimp only; omega, by simp⟩, (fun h => (by cases h)), by simpa using q3⟩
        all_goals
          have hr := q2 rfl
          subst hr
        · simp only [Bool.false_eq_true, if_false, insS, hb3] at q3
          repeat' (first
            | intro _
            | refine Ws ?_
            | (refine Wt ?_ ?_ <;> intro _ <;> try (exfalso; omega))
            | (refine Wu ?_ ?_ <;> intro _)
            | refine Wo.call0 (r3) ?_
            | refine Wo.app1n (enc := VV.str) okStr (fun g4 => ?_)
            | refine Wv ?_
            | refine Wz ?_
            | fail)
          exact Rd (k + 1, false, false, _, [z], 1) (by dsimp only; omega) ⟨⟨by dsimp only; omega, rfl⟩, (fun h => (by cases h)), by simpa using q3⟩
        · simp only [Bool.false_eq_true, if_false, if_true, insS, hb3] at q3
          repeat' (first
            | intro _
            | refine Ws ?_
            | (refine Wt ?_ ?_ <;> intro _ <;> try (exfalso; omega))
            | (refine Wu ?_ ?_ <;> intro _)
            | refine Wo.call0 (r3) ?_
            | refine Wo.app1n (enc := VV.str) okStr (fun g4 => ?_)
            | refine Wo.app1 (enc := VV.str) (la := [p]) (fun _ => ?_) (hm := (by simp))
            | refine Wv ?_
            | refine Wz ?_
            | fail)
          exact Rd (k + 1, true, false, _, [p].take 1 ++ [z], 2) (by dsimp only; omega) ⟨⟨by dsimp only; omega, rfl⟩, (fun h => (by cases h)), by simpa using q3⟩
        · simp only [if_true] at q3
          repeat' (first
            | intro _
            | refine Ws ?_
            | (refine Wt ?_ ?_ <;> intro _ <;> try (exfalso; omega))
            | (refine Wu ?_ ?_ <;> intro _)
            | refine Wo.call0 (r3) ?_
            | refine Wo.app1n (enc := VV.str) okStr (fun g4 => ?_)
            | refine Wv ?_
            | refine Wz ?_
            | fail)
          exact Rd (k + 1, true, false, _, [z], 1) (by dsimp only; omega) ⟨⟨by dsimp only; omega, rfl⟩, (fun h => (by cases h)), by simpa using q3⟩
        · simp only [if_true] at q3
          repeat' (first
            | intro _
            | refine Ws ?_
            | (refine Wt ?_ ?_ <;> intro _ <;> try (exfalso; omega))
            | (refine Wu ?_ ?_ <;> intro _)
            | refine Wo.call0 (r3) ?_
            | refine Wo.app1n (enc := VV.str) okStr (fun g4 => ?_)
            | refine Wv ?_
            | refine Wz ?_
            | fail)
          exact Rd (k + 1, true, false, _, [z], 1) (by dsimp only; omega) ⟨⟨by dsimp only; omega, rfl⟩, (fun h => (by cases h)), by simpa using q3⟩
      · rw [List.drop_eq_nil_of_le hk] at q3
        have e1 : List.take r.length r = r := List.take_length
        cases e <;> cases dn
        · simp only [Bool.false_eq_true, if_false, insS] at q3
          repeat' (first
            | intro _
            | refine Ws ?_
            | (refine Wt ?_ ?_ <;> intro _ <;> try (exfalso; omega))
            | (refine Wu ?_ ?_ <;> intro _)
            | refine Wv ?_
            | refine Wz ?_
            | fail)
          rw [e1, lst_eq q3]
          exact Rd (i + 1, insS ltB p o) (by dsimp only; omega) ⟨⟨by dsimp only; omega, by dsimp only; rw [len_insS]; omega, mem_ok hoz hpo⟩, h3⟩
        · simp only [if_true, List.append_nil] at q3
          repeat' (first
            | intro _
            | refine Ws ?_
            | (refine Wt ?_ ?_ <;> intro _ <;> try (exfalso; omega))
            | (refine Wu ?_ ?_ <;> intro _)
            | refine Wv ?_
            | refine Wz ?_
            | fail)
          rw [lst_eq q3]
          exact Rd (i + 1, insS ltB p o) (by dsimp only; omega) ⟨⟨by dsimp only; omega, by dsimp only; rw [len_insS]; omega, mem_ok hoz hpo⟩, h3⟩
        all_goals
          have hr := q2 rfl
          subst hr
        · simp only [Bool.false_eq_true, if_false, insS, List.nil_append] at q3
          repeat' (first
            | intro _
            | refine Ws ?_
            | (refine Wt ?_ ?_ <;> intro _ <;> try (exfalso; omega))
            | (refine Wu ?_ ?_ <;> intro _)
            | refine Wo.app1n (enc := VV.str) okStr (fun g4 => ?_)
            | refine Wv ?_
            | refine Wz ?_
            | fail)
          rw [lst_eq q3]
          exact Rd (i + 1, insS ltB p o) (by dsimp only; omega) ⟨⟨by dsimp only; omega, by dsimp only; rw [len_insS]; omega, mem_ok hoz hpo⟩, h3⟩
        · simp only [if_true, List.append_nil] at q3
          exact absurd q3.symm (ins_ne p o)
    · subst hO
      repeat' (first
        | intro _
        | refine Ws ?_
        | (refine Wt ?_ ?_ <;> intro _ <;> try (exfalso; omega))
        | (refine Wu ?_ ?_ <;> intro _)
        | refine Wo.call0 (r1) ?_
        | refine Wo.call0 (r2) ?_
        | refine Wv ?_
        | refine Wz ?_
        | fail)
      exact Rd (i + 1, o) (by dsimp only; omega) ⟨⟨by dsimp only; omega, by dsimp only; omega, hoz⟩, h2⟩
    · subst hO
      repeat' (first
        | intro _
        | refine Ws ?_
        | (refine Wt ?_ ?_ <;> intro _ <;> try (exfalso; omega))
        | (refine Wu ?_ ?_ <;> intro _)
        | refine Wo.call0 (r1) ?_
        | refine Wo.call0 (r2) ?_
        | refine Wv ?_
        | refine Wz ?_
        | fail)
      exact Rd (i + 1, o) (by dsimp only; omega) ⟨⟨by dsimp only; omega, by dsimp only; omega, hoz⟩, h2⟩
    · subst hO
      repeat' (first
        | intro _
        | refine Ws ?_
        | (refine Wt ?_ ?_ <;> intro _ <;> try (exfalso; omega))
        | (refine Wu ?_ ?_ <;> intro _)
        | refine Wo.call0 (r1) ?_
        | refine Wo.call0 (r2) ?_
        | refine Wv ?_
        | refine Wz ?_
        | fail)
      exact Rd (i + 1, o) (by dsimp only; omega) ⟨⟨by dsimp only; omega, by dsimp only; omega, hoz⟩, h2⟩
  · rw [List.drop_eq_nil_of_le hi] at h2
    repeat' (first
      | intro _
      | refine Ws ?_
      | (refine Wt ?_ ?_ <;> intro _ <;> try (exfalso; omega))
      | (refine Wu ?_ ?_ <;> intro _)
      | refine Wv ?_
      | refine Wz ?_
      | fail)
    all_goals first
      | (rw [← h2, ← hO]; rfl)
      | trace_state
end Go.Vi.CYtnloddhadlpajaa
