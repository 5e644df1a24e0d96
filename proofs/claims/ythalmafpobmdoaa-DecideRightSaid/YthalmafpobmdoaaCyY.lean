/-
  Behind an accepted command's events the state may be: the walk of the law.
-/
import Derived.Test.YthalmafpobmdoaaCyX
namespace Go.Vi.CYthalmafpobmdoaa
open Go.Vi Go.Proofs Go.Proofs.Ythalmafpobmdoaa
set_option linter.unusedVariables false
set_option maxHeartbeats 8000000
set_option maxRecDepth 100000
set_option linter.unusedSimpArgs false

theorem decS_evok {t : Tb} {s : Stt} {c : Cm} (ht : t.ok) (hs : s.ok) (hR : rightB t = true) (hx : s.ver ≤ 1099511627000) : ∀ z ∈ (decS t s c).1.list, z.ok := by
  intro z hz
  by_cases hc : (decS t s c).2 = 0
  · obtain ⟨r, es, a, v, h0, hr, hmay, e1, e2, e3⟩ := decS_code hR hc
    have hns := right_nsteps hR hr
    have hto : ∀ p ∈ r.steps.list, p.to < (t.states.list.length : Int) := fun p hp => by
      obtain ⟨i, hi, rfl⟩ := List.getElem_of_mem hp
      exact (right_set hR hr i _ (List.getElem?_eq_getElem hi)).1
    have hst := right_states (by rw [← rightB_eq]; exact hR)
    have hml := mayS_len hmay
    unfold mayS at hmay
    simp only [Bool.and_eq_true, decide_eq_true_eq] at hmay
    obtain ⟨⟨⟨⟨⟨m1, m2⟩, m3⟩, m4⟩, m5⟩, m6⟩ := hmay
    rw [e1] at hz
    have key : ∀ (k : Nat) (a : Int) (v : List Int) (es : List Ev), k ≤ r.steps.list.length → stepsAt r.steps.list s.at' s.vars.list c.args.list k = some (a, v, es) → ∀ z ∈ es, z.ok := by
      intro k
      induction k with
      | zero => intro a v es _ h; simp only [stepsAt, Option.some.injEq, Prod.mk.injEq] at h; obtain ⟨_, _, rfl⟩ := h; intro z hz; cases hz
      | succ k ih =>
        intro a v es hk h
        have i := stepsAt_may hto ⟨m1, m2⟩ m6 s.ver (by omega) hk h
        have j := (stepsAt_evs h).1
        have h' := h
        rw [stepsAt] at h
        cases h1 : stepsAt r.steps.list s.at' s.vars.list c.args.list k with
        | none => rw [h1] at h; cases h
        | some q =>
          obtain ⟨a1, v1, es1⟩ := q
          cases h2 : r.steps.list[k]? with
          | none => rw [h1, h2] at h; cases h
          | some p =>
            rw [h1, h2] at h
            simp only at h
            cases h3 : stepS p a1 v1 c.args.list with
            | none => rw [h3] at h; cases h
            | some q2 =>
              obtain ⟨a2, v2⟩ := q2
              rw [h3] at h
              simp only [Option.some.injEq, Prod.mk.injEq] at h
              obtain ⟨rfl, rfl, rfl⟩ := h
              intro z hz
              rcases List.mem_append.1 hz with hz | hz
              · exact ih a1 v1 es1 (by omega) h1 z hz
              · simp at hz
                subst hz
                refine ⟨by unfold w64; show _ ≤ a2 ∧ a2 ≤ _; omega, by unfold Sl.ok; show v2.length ≤ _; omega, by unfold Sl.fit; show v2.length * 8 ≤ _; omega, fun y hy => ?_⟩
                have := (valueOk_abs _).1 (valuesOk_iff.1 i.2.1 y hy)
                unfold w64; omega
    exact key _ a v es (Nat.le_refl _) e3 z hz
  · rw [(decS_no hR hc).1] at hz
    simp [Sl.list] at hz
theorem may_w {t : Tb} {s : Stt} (ht : t.ok) (hR : rightB t = true) (h : mayS t s = true) : s.ok ∧ Sl.fit s.vars := by
  have hst := right_states (by rw [← rightB_eq]; exact hR)
  unfold mayS at h
  simp only [Bool.and_eq_true, decide_eq_true_eq] at h
  obtain ⟨⟨⟨⟨⟨m1, m2⟩, m3⟩, m4⟩, m5⟩, m6⟩ := h
  refine ⟨⟨by unfold w64; omega, by unfold w64; omega, by unfold Sl.ok; omega, fun y hy => ?_⟩, by unfold Sl.fit; omega⟩
  have := (valueOk_abs _).1 (valuesOk_iff.1 m6 y hy)
  unfold w64; omega
theorem r_DecideRight (t : Tb) (l : Sl Cm) (ht : t.ok) (hl : Sl.ok l) (hc : ∀ z ∈ l.list, z.ok) (H : Hp) : Runs Try.prog pol 6 [.val (tbV t), .val (slV cmV l)] H ([.val (.bool true)], [], H) := by
  have hl' := hl
  unfold Sl.ok at hl'
  cases hR : rightB t
  · refine Runs.told (fn := Try.f6) (n := 87) [(0, .val (tbV t)), (1, .val (slV cmV l))] [(0, .gone 0), (1, .gone 0)] rfl Try.func6 rfl rfl (by kernel_rfl) rfl (by repeat' constructor) (by repeat' constructor) ?_
    repeat' (first
      | intro _
      | refine Ws ?_
      | (refine Wt ?_ ?_ <;> intro _ <;> try (exfalso; omega))
      | (refine Wu ?_ ?_ <;> intro _)
      | refine Wo.callB (r_lright _ ht) (fun _ => ?_) (fun _ => ?_)
      | refine Wo.call0 (r_awake) ?_
      | refine Wv ?_
      | refine Wz ?_
      | fail)
    all_goals first
      | rfl
      | (exfalso; have h : rightB t = true := by assumption
         rw [hR] at h; cases h; done)
      | trace_state
  · have hst := right_states (by rw [← rightB_eq]; exact hR)
    have hn := r_New t ht (fun h => by omega)
    refine Runs.told (fn := Try.f6) (n := 87) [(0, .val (tbV t)), (1, .val (slV cmV l))] [(0, .gone 0), (1, .gone 0)] rfl Try.func6 rfl rfl (by kernel_rfl) rfl (by repeat' constructor) (by repeat' constructor) ?_
    repeat' (first
      | intro _
      | refine Ws ?_
      | (refine Wt ?_ ?_ <;> intro _ <;> try (exfalso; omega))
      | (refine Wu ?_ ?_ <;> intro _)
      | refine Wo.callB (r_lright _ ht) (fun _ => ?_) (fun _ => ?_)
      | refine Wo.call0 (r_awake) ?_
      | refine Wo.call0 (hn) ?_
      | refine Wv ?_
      | refine Wz ?_
      | fail)
    · rename_i g5
      refine Wx.loop [1, 2, 5] [0, 1, 2, 11, 14, 17, 19] (fun (k, s) => [(6, .val (iv (k : Nat)))]) (fun (k, s) => [(5, .box g5 [.val (iv s.at'), .val (iv s.ver), .val (slV iv s.vars)] true)]) (fun (k, s) => (k ≤ l.list.length ∧ k ≤ 40) ∧ mayS t s = true ∧ s.ver ≤ 3 * k) (fun (k, s) => 40 - k) (0, newS t) ⟨⟨Nat.zero_le _, by omega⟩, may_new hR, by unfold newS; split <;> (show (0 : Int) ≤ _; omega)⟩ (fun a x y hG => ?_)
      obtain ⟨k, s⟩ := a
      obtain ⟨h1, h2, h3⟩ := hG
      dsimp only [List.cons_append, List.nil_append]
      by_cases hk : k < l.list.length ∧ k < 40
      · obtain ⟨z, hz⟩ := at_some hk.1
        have hzo := hc z (List.mem_of_getElem? hz)
        obtain ⟨hso, hsf⟩ := may_w ht hR h2
        have hd := r_Decide t s z ht hso hzo
        have hde := decS_evs (c := z) ht hso
        by_cases hz0 : (decS t s z).2 = 0
        · obtain ⟨n1, n2, r, h0, hr, n3, n4⟩ := dec_next hR hz0 (by omega)
          have hfo := r_Fold s (decS t s z).1 hso hsf hde.1 (decS_evok ht hso hR (by omega))
          obtain ⟨hno, hnf⟩ := may_w ht hR n1
          have hri := r_Right t (foldS s (decS t s z).1.list) ht hno
          rw [hR, n1] at hri
          have hrl := (ht.2.2.2.2 r (List.mem_of_getElem? hr)).2.2.2.2.1
          have hv0 : 0 ≤ s.ver := by
            have h := h2
            unfold mayS at h
            simp only [Bool.and_eq_true, decide_eq_true_eq] at h
            omega
          repeat' (first
            | intro _
            | refine Ws ?_
            | (refine Wt ?_ ?_ <;> intro _ <;> try (exfalso; omega))
            | (refine Wu ?_ ?_ <;> intro _)
            | refine Wo.call0 (hd) ?_
            | refine Wo.call0 (hfo) ?_
            | refine Wo.call0 (hri) ?_
            | refine Wv ?_
            | refine Wz ?_
            | fail)
          all_goals first
            | exact Rd (k + 1, foldS s (decS t s z).1.list) (by dsimp only; omega) ⟨⟨by dsimp only; omega, by dsimp only; omega⟩, n1, by dsimp only; rw [n2, n3]; omega⟩
            | (exfalso; omega)
            | trace_state
        · obtain ⟨n1, n2, n3⟩ := decS_no hR hz0
          rw [n1] at hd
          repeat' (first
            | intro _
            | refine Ws ?_
            | (refine Wt ?_ ?_ <;> intro _ <;> try (exfalso; omega))
            | (refine Wu ?_ ?_ <;> intro _)
            | refine Wo.call0 (hd) ?_
            | refine Wv ?_
            | refine Wz ?_
            | fail)
          all_goals first
            | exact Rd (k + 1, s) (by dsimp only; omega) ⟨⟨by dsimp only; omega, by dsimp only; omega⟩, h2, by dsimp only; omega⟩
            | (exfalso; omega)
            | (exfalso; rename_i h; simp [Sl.list] at h; done)
            | trace_state
      · repeat' (first
          | intro _
          | refine Ws ?_
          | (refine Wt ?_ ?_ <;> intro _ <;> try (exfalso; omega))
          | (refine Wu ?_ ?_ <;> intro _)
          | refine Wv ?_
          | refine Wz ?_
          | fail)
        all_goals first
          | rfl
          | (exfalso; omega)
          | trace_state
    all_goals first
      | (exfalso; have h : rightB t = false := by assumption
         rw [hR] at h; cases h; done)
      | trace_state
end Go.Vi.CYthalmafpobmdoaa
