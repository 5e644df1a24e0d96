/-
  What becomes of a command: the program.
-/
import Derived.Test.YthalmafpobmdoaaCyN
import Derived.Test.YthalmafpobmdoaaCyO
namespace Go.Vi.CYthalmafpobmdoaa
open Go.Vi Go.Proofs Go.Proofs.Ythalmafpobmdoaa
set_option linter.unusedVariables false
set_option maxHeartbeats 8000000
set_option maxRecDepth 100000
set_option linter.unusedSimpArgs false

theorem refS_zero {t : Tb} {s : Stt} {c : Cm} (h : refS t s c = 0) : mayS t s = true ∧ 0 ≤ c.rule ∧ ∃ r, t.rules.list[c.rule.toNat]? = some r ∧ (c.args.list.length : Int) = r.args ∧ valuesOk c.args.list = true ∧ for' t c.rule s.at' = true ∧ ¬ (0 ≤ c.exp ∧ c.exp ≠ s.ver) ∧ gdsS s.vars.list c.args.list r.guards.list = 0 := by
  unfold refS at h
  split at h
  · cases h
  · rename_i hm
    have hm : mayS t s = true := by simpa using hm
    by_cases h0 : 0 ≤ c.rule
    · rw [if_pos h0] at h
      cases hr : t.rules.list[c.rule.toNat]? with
      | none => rw [hr] at h; cases h
      | some r =>
        rw [hr] at h
        simp only at h
        split at h
        · cases h
        · rename_i ha
          split at h
          · cases h
          · rename_i hf
            split at h
            · cases h
            · rename_i he
              exact ⟨hm, h0, r, rfl, by omega, by cases hv : valuesOk c.args.list with | true => rfl | false => exact absurd (.inr hv) ha, by simpa using hf, he, h⟩
    · rw [if_neg h0] at h; cases h
theorem mayS_len {t : Tb} {s : Stt} (h : mayS t s = true) : s.vars.list.length = t.vars.list.length := by
  unfold mayS at h
  simp only [Bool.and_eq_true, decide_eq_true_eq] at h
  omega
theorem stepsAt_len {l : List Sp} {a0 : Int} {v0 args : List Int} : ∀ {k : Nat} {a : Int} {v : List Int} {es : List Ev}, stepsAt l a0 v0 args k = some (a, v, es) → es.length = k
  | 0, a, v, es, h => by simp only [stepsAt, Option.some.injEq, Prod.mk.injEq] at h; rw [← h.2.2]; rfl
  | k + 1, a, v, es, h => by
    rw [stepsAt] at h
    cases h1 : stepsAt l a0 v0 args k with
    | none => rw [h1] at h; cases h
    | some q =>
      obtain ⟨a1, v1, es1⟩ := q
      cases h2 : l[k]? with
      | none => rw [h1, h2] at h; cases h
      | some p =>
        rw [h1, h2] at h
        simp only at h
        cases h3 : stepS p a1 v1 args with
        | none => rw [h3] at h; cases h
        | some q2 =>
          obtain ⟨a2, v2⟩ := q2
          rw [h3] at h
          simp only [Option.some.injEq, Prod.mk.injEq] at h
          rw [← h.2.2, List.length_append, List.length_singleton, stepsAt_len h1]
theorem okEv (e : Ev) : okElem 2 (evV e) = true := by obtain ⟨a, v⟩ := e; cases v <;> rfl
theorem r_Decide (t : Tb) (s : Stt) (c : Cm) (ht : t.ok) (hs : s.ok) (hc : c.ok) (H : Hp) : Runs Try.prog pol 8 [.val (tbV t), .val (sttV s), .val (cmV c)] H ([.val (slV evV (decS t s c).1), .val (iv (decS t s c).2)], [], H) := by
  cases hR : rightB t
  · have hD : decS t s c = (none, 1) := by unfold decS; rw [if_pos hR]
    rw [hD]
    refine Runs.told (fn := Try.f8) (n := 65) [(0, .val (tbV t)), (1, .val (sttV s)), (2, .val (cmV c))] [(0, .gone 0), (1, .gone 0), (2, .gone 0)] rfl Try.func8 rfl rfl (by kernel_rfl) rfl (by repeat' constructor) (by repeat' constructor) ?_
    repeat' (first
      | intro _
      | refine Ws ?_
      | (refine Wt ?_ ?_ <;> intro _ <;> try (exfalso; omega))
      | (refine Wu ?_ ?_ <;> intro _)
      | refine Wo.callB (r_dright _ ht) (fun _ => ?_) (fun _ => ?_)
      | refine Wv ?_
      | refine Wz ?_
      | fail)
    all_goals first
      | rfl
      | (exfalso; have h : rightB t = true := by assumption
         rw [hR] at h; cases h; done)
      | trace_state
  · by_cases hrf : refS t s c = 0
    · obtain ⟨hmay, h0, r, hr, hra, hva, hfo, hex, hgd⟩ := refS_zero hrf
      have hro := ht.2.2.2.2 r (List.mem_of_getElem? hr)
      have hst8 := right_states (by rw [← rightB_eq]; exact hR)
      have hvl := mayS_len hmay
      have hns := right_nsteps hR hr
      have hca := hc.2.2.2.2.1.1
      have hrn : c.rule.toNat < t.rules.list.length := (List.getElem?_eq_some_iff.1 hr).1
      have hD : decS t s c = match stepsAt r.steps.list s.at' s.vars.list c.args.list r.steps.list.length with
          | some (_, _, es) => (some es, 0)
          | none => (none, 5) := by
        unfold decS; rw [if_neg (by simp [hR]), if_neg (by simp [hrf]), if_pos h0, hr]; rfl
      refine Runs.told (fn := Try.f8) (n := 65) [(0, .val (tbV t)), (1, .val (sttV s)), (2, .val (cmV c))] [(0, .gone 0), (1, .gone 0), (2, .gone 0)] rfl Try.func8 rfl rfl (by kernel_rfl) rfl (by repeat' constructor) (by repeat' constructor) ?_
      repeat' (first
        | intro _
        | refine Ws ?_
        | (refine Wt ?_ ?_ <;> intro _ <;> try (exfalso; omega))
        | (refine Wu ?_ ?_ <;> intro _)
        | refine Wo.callB (r_dright _ ht) (fun _ => ?_) (fun _ => ?_)
        | refine Wo.call0 (r_refused _ _ _ ht hs hc) ?_
        | refine Wo.buildP ?_
        | refine Wv ?_
        | refine Wz ?_
        | fail)
      all_goals first
        | (exfalso; have h : rightB t = false := by assumption
           rw [hR] at h; cases h; done)
        | (exfalso; have h : ¬ refS t s c = 0 := by assumption
           exact h hrf)
        | skip
      rename_i g31
      refine Wx.loop [9, 10, 38, 39, 64] [1, 2, 3, 4, 5, 15, 20] (fun (k, a, v, e, g, es, m) => [(40, .val (iv (k : Nat))), (11, bif e then .val .nils else .own 62 g 0 m 2)]) (fun (k, a, v, e, g, es, m) => [(31, .box g31 [.val (iv a), .val (slV iv v), .val (slV iv c.args)] true), ((bif e then 0 else 62), bif e then .gone 0 else .row g (es.map evV) 2 false)]) (fun (k, a, v, e, g, es, m) => (k ≤ r.steps.list.length ∧ m = es.length) ∧ stepsAt r.steps.list s.at' s.vars.list c.args.list k = some (a, Sl.list v, es) ∧ (e = true → es = []) ∧ (e = false → es ≠ []) ∧ (Sl.list v).length = s.vars.list.length) (fun (k, a, v, e, g, es, m) => r.steps.list.length - k) (0, s.at', (s.vars : Sl Int), true, 0, ([] : List Ev), 0) ⟨⟨Nat.zero_le _, rfl⟩, rfl, fun _ => rfl, fun h => (by cases h), rfl⟩ (fun a x y hG => ?_)
      obtain ⟨k, a, v, e, g, es, m⟩ := a
      obtain ⟨h1', h2, h3, h4, h5⟩ := hG
      dsimp only [List.cons_append, List.nil_append]
      obtain ⟨h1, hm⟩ := h1'
      subst hm
      have hel := stepsAt_len h2
      rcases Nat.lt_or_ge k r.steps.list.length with hk | hk
      · obtain ⟨p, hp⟩ := at_some hk
        have hpo := hro.2.2.2.2.2 p (List.mem_of_getElem? hp)
        have hsr : ∀ (j : Nat) (y : St), p.sets.list[j]? = some y → 0 ≤ y.var ∧ y.var < (Sl.list v).length := fun j y hy => by
          have := (right_set hR hr k p hp).2 j y hy
          omega
        cases hst : stepS p a (Sl.list v) c.args.list with
        | none =>
          have hno := r_step_no p a v c.args hpo (by omega) hca hsr hst
          have hsn : stepsAt r.steps.list s.at' s.vars.list c.args.list (k + 1) = none := by rw [stepsAt_succ h2 hp, hst]
          cases e <;> dsimp only [cond]
          · repeat' (first
              | intro _
              | refine Ws ?_
              | (refine Wt ?_ ?_ <;> intro _ <;> try (exfalso; omega))
              | (refine Wu ?_ ?_ <;> intro _)
              | refine Wo.lend hno ?_
              | refine Wv ?_
              | refine Wz ?_
              | fail)
            rw [hD, stepsAt_none hsn _ (by omega)]; rfl
          · repeat' (first
              | intro _
              | refine Ws ?_
              | (refine Wt ?_ ?_ <;> intro _ <;> try (exfalso; omega))
              | (refine Wu ?_ ?_ <;> intro _)
              | refine Wo.lend hno ?_
              | refine Wv ?_
              | refine Wz ?_
              | fail)
            rw [hD, stepsAt_none hsn _ (by omega)]; rfl
        | some q =>
          obtain ⟨a', v'⟩ := q
          have hyes := r_step_yes p a v c.args hpo (by omega) hca hsr hst
          have hvl' := stepS_len hst
          have hsn : stepsAt r.steps.list s.at' s.vars.list c.args.list (k + 1) = some (a', v', es ++ [⟨a', some v'⟩]) := by rw [stepsAt_succ h2 hp, hst]
          cases e <;> dsimp only [cond]
          · repeat' (first
              | intro _
              | refine Ws ?_
              | (refine Wt ?_ ?_ <;> intro _ <;> try (exfalso; omega))
              | (refine Wu ?_ ?_ <;> intro _)
              | refine Wo.lend hyes ?_
              | refine Wv ?_
              | refine Wz ?_
              | fail)
            refine Wo.appF (enc := iv) (s := some v') (fun g2 _ hne => ?_) (fun hem => ?_) (hr := by show v'.length ≤ _; omega)
            · refine Wo.buildSt ?_
              refine Wo.rowSt (fun g3 => ?_)
              refine Wo.app1 (enc := evV) (a := ⟨a', some v'⟩) (fun g4 => ?_) (hnew := okEv)
              repeat' (first
                | intro _
                | refine Ws ?_
                | (refine Wt ?_ ?_ <;> intro _ <;> try (exfalso; omega))
                | (refine Wu ?_ ?_ <;> intro _)
                | refine Wv ?_
                | refine Wz ?_
                | fail)
              exact Rd (k + 1, a', some v', false, _, es.take es.length ++ [⟨a', some v'⟩], es.length + 1) (by dsimp only; omega) ⟨⟨by dsimp only; omega, by simp⟩, by rw [List.take_length]; exact hsn, (fun h => by cases h), (fun _ => by simp), by show v'.length = _; omega⟩
            · have hv0 : v' = [] := hem
              subst hv0
              refine Wo.buildFl ?_
              repeat' (first
                | intro _
                | refine Ws ?_
                | (refine Wt ?_ ?_ <;> intro _ <;> try (exfalso; omega))
                | (refine Wu ?_ ?_ <;> intro _)
                | refine Wo.app1 (enc := evV) (a := ⟨a', some []⟩) (fun g4 => ?_) (hnew := okEv)
                | refine Wv ?_
                | refine Wz ?_
                | fail)
              exact Rd (k + 1, a', some [], false, _, es.take es.length ++ [⟨a', some []⟩], es.length + 1) (by dsimp only; omega) ⟨⟨by dsimp only; omega, by simp⟩, by rw [List.take_length]; exact hsn, (fun h => by cases h), (fun _ => by simp), by show ([] : List Int).length = _; omega⟩
          · repeat' (first
              | intro _
              | refine Ws ?_
              | (refine Wt ?_ ?_ <;> intro _ <;> try (exfalso; omega))
              | (refine Wu ?_ ?_ <;> intro _)
              | refine Wo.lend hyes ?_
              | refine Wv ?_
              | refine Wz ?_
              | fail)
            refine Wo.appF (enc := iv) (s := some v') (fun g2 _ hne => ?_) (fun hem => ?_) (hr := by show v'.length ≤ _; omega)
            · refine Wo.buildSt ?_
              refine Wo.rowSt (fun g3 => ?_)
              refine Wo.app1n (enc := evV) (a := ⟨a', some v'⟩) okEv (fun g4 => ?_)
              repeat' (first
                | intro _
                | refine Ws ?_
                | (refine Wt ?_ ?_ <;> intro _ <;> try (exfalso; omega))
                | (refine Wu ?_ ?_ <;> intro _)
                | refine Wv ?_
                | refine Wz ?_
                | fail)
              have he0 := h3 rfl
              subst he0
              exact Rd (k + 1, a', some v', false, _, [⟨a', some v'⟩], 1) (by dsimp only; omega) ⟨⟨by dsimp only; omega, rfl⟩, hsn, (fun h => by cases h), (fun _ => by simp), by show v'.length = _; omega⟩
            · have hv0 : v' = [] := hem
              subst hv0
              refine Wo.buildFl ?_
              repeat' (first
                | intro _
                | refine Ws ?_
                | (refine Wt ?_ ?_ <;> intro _ <;> try (exfalso; omega))
                | (refine Wu ?_ ?_ <;> intro _)
                | refine Wo.app1n (enc := evV) (a := ⟨a', some []⟩) okEv (fun g4 => ?_)
                | refine Wv ?_
                | refine Wz ?_
                | fail)
              have he0 := h3 rfl
              subst he0
              exact Rd (k + 1, a', some [], false, _, [⟨a', some []⟩], 1) (by dsimp only; omega) ⟨⟨by dsimp only; omega, rfl⟩, hsn, (fun h => by cases h), (fun _ => by simp), by show ([] : List Int).length = _; omega⟩
      · have hkk : k = r.steps.list.length := by omega
        subst hkk
        cases e <;> dsimp only [cond]
        · repeat' (first
            | intro _
            | refine Ws ?_
            | (refine Wt ?_ ?_ <;> intro _ <;> try (exfalso; omega))
            | (refine Wu ?_ ?_ <;> intro _)
            | refine Wv ?_
            | refine Wz ?_
            | fail)
          refine Wl.retF ?_
          rw [hD, h2]; rfl
        · exfalso
          have := h3 rfl
          rw [this] at hel
          simp at hel
          omega
    · have hD : decS t s c = (none, refS t s c) := by unfold decS; rw [if_neg (by simp [hR]), if_pos hrf]
      rw [hD]
      refine Runs.told (fn := Try.f8) (n := 65) [(0, .val (tbV t)), (1, .val (sttV s)), (2, .val (cmV c))] [(0, .gone 0), (1, .gone 0), (2, .gone 0)] rfl Try.func8 rfl rfl (by kernel_rfl) rfl (by repeat' constructor) (by repeat' constructor) ?_
      repeat' (first
        | intro _
        | refine Ws ?_
        | (refine Wt ?_ ?_ <;> intro _ <;> try (exfalso; omega))
        | (refine Wu ?_ ?_ <;> intro _)
        | refine Wo.callB (r_dright _ ht) (fun _ => ?_) (fun _ => ?_)
        | refine Wo.call0 (r_refused _ _ _ ht hs hc) ?_
        | refine Wv ?_
        | refine Wz ?_
        | fail)
      all_goals first
        | rfl
        | (exfalso; have h : rightB t = false := by assumption
           rw [hR] at h; cases h; done)
        | (exfalso; exact hrf (by assumption))
        | trace_state
end Go.Vi.CYthalmafpobmdoaa
