/-
  Behind an accepted command's events the state may be: plain facts.
-/
import Derived.Test.YthalmafpobmdoaaCyL
import Derived.Test.YthalmafpobmdoaaCyS
namespace Go.Vi.CYthalmafpobmdoaa
open Go.Vi Go.Proofs Go.Proofs.Ythalmafpobmdoaa
set_option linter.unusedVariables false
set_option maxHeartbeats 8000000
set_option maxRecDepth 100000
set_option linter.unusedSimpArgs false

theorem takes_one {op : Int} (t1 : takes op = 1) : op = 4 ∨ op = 5 := by
  unfold takes at t1
  split at t1
  · cases t1
  · split at t1
    · assumption
    · split at t1
      · cases t1
      · split at t1 <;> cases t1
theorem takes_two {op : Int} (t2 : takes op = 2) : 6 ≤ op ∧ op ≤ 15 := by
  unfold takes at t2
  split at t2
  · cases t2
  · split at t2
    · cases t2
    · split at t2
      · assumption
      · split at t2
        · cases t2
        · cases t2
/-- the numbers in the row are values -/
theorem evJ_all {l : List Ins} {vars args : List Int} (hbad : ∀ i, i < l.length → ckBad l vars.length args.length i = none) (hv : valuesOk vars = true) (ha : valuesOk args = true) : ∀ (k : Nat) (st : List Int), k ≤ l.length → evalAt l vars args k = some st → EvJ l vars args k st
  | 0, st, _, h => by
    simp only [evalAt, Option.some.injEq] at h
    subst h
    exact ⟨Nat.zero_le _, rfl, rfl, Nat.le_refl _, fun v hv => by cases hv⟩
  | k + 1, st, hk, h => by
    have hk' : k < l.length := hk
    rw [evalAt] at h
    cases h1 : evalAt l vars args k with
    | none => rw [h1] at h; cases h
    | some st0 =>
      obtain ⟨z, hz⟩ := at_some hk'
      rw [h1, hz] at h
      simp only at h
      have I := evJ_all hbad hv ha k st0 (by omega) h1
      obtain ⟨ht0, hnm, htr⟩ := ck_at hz (hbad k hk')
      have hrw := I.row
      have fin : ∀ (q : Nat) (v : Int), (q : Int) = takes z.op → evalStep vars args st0 z = some (st0.take (st0.length - q) ++ [v]) → valueOk v = true → EvJ l vars args (k + 1) st := fun q v hq he hvo => by
        rw [he] at h
        simp only [Option.some.injEq] at h
        rw [← h]
        exact I.push hk' hz hq (by omega) he hvo
      have hstep : ∀ q : Nat, (q : Int) = takes z.op → ¬ z.op = 1 → ¬ z.op = 2 → ¬ z.op = 3 → evalStep vars args st0 z = match madeS z.op (st0.drop (st0.length - q)) with | some v => some (st0.take (st0.length - q) ++ [v]) | none => none := fun q hq o1 o2 o3 => by
        unfold evalStep; rw [if_neg o1, if_neg o2, if_neg o3, show (takes z.op).toNat = q by omega]; rfl
      by_cases o1 : z.op = 1
      · exact fin 0 z.n (by rw [o1]; rfl) (by unfold evalStep; rw [if_pos o1, Nat.sub_zero, List.take_length]) (by simpa [named, o1] using hnm)
      by_cases o2 : z.op = 2
      · have hr2 : 0 ≤ z.n ∧ z.n < vars.length := by simpa [named, o2] using hnm
        obtain ⟨v, hvv⟩ := at_some (show z.n.toNat < vars.length by omega)
        exact fin 0 v (by rw [o2]; rfl) (by unfold evalStep; rw [if_neg o1, if_pos o2, Nat.sub_zero, List.take_length, List.getD_eq_getElem?_getD, hvv]; rfl) (valuesOk_mem hv _ _ hvv)
      by_cases o3 : z.op = 3
      · have hr2 : 0 ≤ z.n ∧ z.n < args.length := by simpa [named, o3] using hnm
        obtain ⟨v, hvv⟩ := at_some (show z.n.toNat < args.length by omega)
        exact fin 0 v (by rw [o3]; rfl) (by unfold evalStep; rw [if_neg o1, if_neg o2, if_pos o3, Nat.sub_zero, List.take_length, List.getD_eq_getElem?_getD, hvv]; rfl) (valuesOk_mem ha _ _ hvv)
      by_cases t1 : takes z.op = 1
      · obtain ⟨a, hda⟩ := one_of (l := st0.drop (st0.length - 1)) (by rw [List.length_drop]; omega)
        have hva := (valueOk_abs _).1 (I.val a (List.mem_of_mem_drop (by rw [hda]; simp)))
        have hst := hstep 1 (by omega) o1 o2 o3
        rw [hda] at hst
        exact fin 1 _ (by omega) hst (by rw [valueOk_abs]; unfold tr; split <;> (try split) <;> omega)
      by_cases t2 : takes z.op = 2
      · obtain ⟨a, b, hda⟩ := two_of (l := st0.drop (st0.length - 2)) (by rw [List.length_drop]; omega)
        have hva : valueOk a = true := I.val a (List.mem_of_mem_drop (by rw [hda]; simp))
        have hvb : valueOk b = true := I.val b (List.mem_of_mem_drop (by rw [hda]; simp))
        have hst := hstep 2 (by omega) o1 o2 o3
        rw [hda] at hst
        cases hB : doesB z.op a b with
        | true =>
          have e : madeS z.op [a, b] = some (doesN z.op a b) := by show (if doesB z.op a b then some (doesN z.op a b) else none) = _; rw [if_pos hB]
          rw [e] at hst
          exact fin 2 _ (by omega) hst (doesN_val hva hvb hB)
        | false =>
          have e : madeS z.op [a, b] = none := by show (if doesB z.op a b then some (doesN z.op a b) else none) = _; rw [hB]; rfl
          rw [e] at hst
          rw [hst] at h; cases h
      have ho : z.op = 16 := op_of ht0 o1 o2 o3 t1 t2
      have t3 : takes z.op = 3 := by rw [ho]; rfl
      obtain ⟨a, b, c, hda⟩ := three_of (l := st0.drop (st0.length - 3)) (by rw [List.length_drop]; omega)
      have hvb : valueOk b = true := I.val b (List.mem_of_mem_drop (by rw [hda]; simp))
      have hvc : valueOk c = true := I.val c (List.mem_of_mem_drop (by rw [hda]; simp))
      have hst := hstep 3 (by omega) o1 o2 o3
      rw [hda] at hst
      exact fin 3 _ (by omega) hst (by split <;> assumption)
theorem eEval_val {l : List Ins} {vars args : List Int} (h : (eEval l vars args).2 = 0) : valueOk (eEval l vars args).1 = true := by
  unfold eEval at h ⊢
  split at h
  · rename_i hck
    rw [if_pos hck]
    split at h
    · rename_i hvv
      rw [if_pos hvv]
      rw [Bool.and_eq_true] at hvv
      cases he : evalAt l vars args l.length with
      | none => rw [he] at h; cases h
      | some st =>
        obtain ⟨_, hbad, hrow⟩ := eCheck_ok hck
        have J := evJ_all hbad hvv.1 hvv.2 l.length st (Nat.le_refl _) he
        have hr := J.row
        obtain ⟨a, rfl⟩ := one_of (l := st) (by omega)
        exact J.val a (by simp)
    · cases h
  · rename_i hck
    exact absurd h hck
theorem valuesOk_of {l : List Int} (h : ∀ v ∈ l, valueOk v = true) : valuesOk l = true := by
  have hs : scan (valBad l) l.length = none := scan_none fun j hj => by
    unfold valBad
    rw [List.getElem?_eq_getElem hj]
    simp only
    rw [if_pos (h _ (List.getElem_mem hj))]
  unfold valuesOk; rw [hs]; rfl
theorem valuesOk_iff {l : List Int} : valuesOk l = true ↔ ∀ v ∈ l, valueOk v = true := ⟨fun h v hv => by
  obtain ⟨i, hi, rfl⟩ := List.getElem_of_mem hv
  exact valuesOk_mem h i _ (List.getElem?_eq_getElem hi), valuesOk_of⟩
theorem setAt_val {l : List St} {vars args : List Int} (hv : valuesOk vars = true) : ∀ {k : Nat} {nx : List Int}, setAt l vars args k = some nx → valuesOk nx = true
  | 0, nx, h => by cases h; exact hv
  | k + 1, nx, h => by
    rw [setAt] at h
    cases h1 : setAt l vars args k with
    | none => rw [h1] at h; cases h
    | some n1 =>
      cases h2 : l[k]? with
      | none => rw [h1, h2] at h; cases h
      | some y =>
        rw [h1, h2] at h
        simp only at h
        split at h
        · rename_i he
          simp only [Option.some.injEq] at h
          subst h
          have h3 := valuesOk_iff.1 (setAt_val hv h1)
          refine valuesOk_of fun v hm => ?_
          rcases List.mem_or_eq_of_mem_set hm with hm | rfl
          · exact h3 v hm
          · exact eEval_val he
        · cases h
/-- behind k steps -/
theorem stepsAt_may {l : List Sp} {a0 : Int} {v0 args : List Int} {m : Int} (hto : ∀ p ∈ l, p.to < m) (ha : 0 ≤ a0 ∧ a0 < m) (hv : valuesOk v0 = true) (x0 : Int) (hx : x0 + l.length ≤ 1099511627776) : ∀ {k : Nat} {a : Int} {v : List Int} {es : List Ev}, k ≤ l.length → stepsAt l a0 v0 args k = some (a, v, es) →
    (0 ≤ a ∧ a < m) ∧ valuesOk v = true ∧ es.foldl applyS ⟨a0, x0, some v0⟩ = ⟨a, x0 + k, some v⟩
  | 0, a, v, es, _, h => by simp only [stepsAt, Option.some.injEq, Prod.mk.injEq] at h; obtain ⟨rfl, rfl, rfl⟩ := h; exact ⟨ha, hv, by simp⟩
  | k + 1, a, v, es, hk, h => by
    rw [stepsAt] at h
    cases h1 : stepsAt l a0 v0 args k with
    | none => rw [h1] at h; cases h
    | some q =>
      obtain ⟨a1, v1, es1⟩ := q
      cases h2 : l[k]? with
      | none => rw [h1, h2] at h; cases h
      | some p =>
        rw [h1, h2] at h
        simp only at h
        obtain ⟨i1, i2, i3⟩ := stepsAt_may hto ha hv x0 hx (by omega) h1
        have htp := hto p (List.mem_of_getElem? h2)
        unfold stepS at h
        cases h3 : setAt p.sets.list v1 args p.sets.list.length with
        | none => rw [h3] at h; cases h
        | some nx =>
          rw [h3] at h
          simp only [Option.some.injEq, Prod.mk.injEq] at h
          obtain ⟨rfl, rfl, rfl⟩ := h
          refine ⟨by by_cases h0 : 0 ≤ p.to; (rw [if_pos h0]; exact ⟨h0, htp⟩); (rw [if_neg h0]; exact i1), setAt_val i2 h3, ?_⟩
          rw [List.foldl_append, i3]
          show applyS _ _ = _
          unfold applyS
          dsimp only
          rw [if_pos (show x0 + (k : Int) < 1099511627776 by omega)]
          congr 1
          omega
theorem decS_code {t : Tb} {s : Stt} {c : Cm} (hR : rightB t = true) (hc : (decS t s c).2 = 0) : ∃ (r : Rl) (es : List Ev) (a : Int) (v : List Int), 0 ≤ c.rule ∧ t.rules.list[c.rule.toNat]? = some r ∧ mayS t s = true ∧ (decS t s c).1 = some es ∧ es.length = r.steps.list.length ∧ stepsAt r.steps.list s.at' s.vars.list c.args.list r.steps.list.length = some (a, v, es) := by
  by_cases hrf : refS t s c = 0
  · obtain ⟨hmay, h0, r, hr, _⟩ := refS_zero hrf
    have hD : decS t s c = match stepsAt r.steps.list s.at' s.vars.list c.args.list r.steps.list.length with
        | some (_, _, es) => (some es, 0)
        | none => (none, 5) := by
      unfold decS; rw [if_neg (by simp [hR]), if_neg (by simp [hrf]), if_pos h0, hr]; rfl
    rw [hD] at hc ⊢
    cases h1 : stepsAt r.steps.list s.at' s.vars.list c.args.list r.steps.list.length with
    | none => rw [h1] at hc; cases hc
    | some q =>
      obtain ⟨a, v, es⟩ := q
      exact ⟨r, es, a, v, h0, hr, hmay, rfl, stepsAt_len h1, h1⟩
  · unfold decS at hc
    rw [if_neg (by simp [hR]), if_pos hrf] at hc
    exact absurd hc hrf
theorem gdsS_range {t : Tb} (hR : rightB t = true) {n : Nat} {r : Rl} (hr : t.rules.list[n]? = some r) (vars args : List Int) : 0 ≤ gdsS vars args r.guards.list ∧ gdsS vars args r.guards.list ≤ 63 := by
  unfold gdsS
  split
  · rename_i i e hs
    obtain ⟨j, hj, he⟩ : ∃ j, j < r.guards.list.length ∧ gdHit vars args r.guards.list j = some e := by
      have key : ∀ (m i0 : Nat), scanFrom (gdHit vars args r.guards.list) i0 m = some (i, e) → ∃ j, gdHit vars args r.guards.list j = some e := by
        intro m
        induction m with
        | zero => intro i0 h; cases h
        | succ m ih =>
          intro i0 h
          rw [scanFrom] at h
          cases hg : gdHit vars args r.guards.list i0 with
          | none => rw [hg] at h; exact ih _ h
          | some b => rw [hg] at h; simp only [Option.some.injEq, Prod.mk.injEq] at h; exact ⟨i0, by rw [hg, h.2]⟩
      obtain ⟨j, hj⟩ := key _ _ hs
      refine ⟨j, ?_, hj⟩
      unfold gdHit at hj
      rcases Nat.lt_or_ge j r.guards.list.length with h | h
      · exact h
      · rw [List.getElem?_eq_none h] at hj; cases hj
    obtain ⟨g, hg⟩ := at_some hj
    have hc := right_guard hR hr j g hg
    unfold gdHit at he
    rw [hg] at he
    simp only at he
    split at he
    · cases he
    · simp only [Option.some.injEq] at he
      rw [← he]
      unfold gdS
      split
      · omega
      · split <;> omega
  · omega
theorem decS_no {t : Tb} {s : Stt} {c : Cm} (hR : rightB t = true) (hc : ¬ (decS t s c).2 = 0) : (decS t s c).1 = none ∧ 0 ≤ (decS t s c).2 ∧ (decS t s c).2 ≤ 63 := by
  by_cases hrf : refS t s c = 0
  · obtain ⟨hmay, h0, r, hr, _⟩ := refS_zero hrf
    have hD : decS t s c = match stepsAt r.steps.list s.at' s.vars.list c.args.list r.steps.list.length with
        | some (_, _, es) => (some es, 0)
        | none => (none, 5) := by
      unfold decS; rw [if_neg (by simp [hR]), if_neg (by simp [hrf]), if_pos h0, hr]; rfl
    rw [hD] at hc ⊢
    cases h1 : stepsAt r.steps.list s.at' s.vars.list c.args.list r.steps.list.length with
    | none => exact ⟨rfl, by decide, by decide⟩
    | some q => rw [h1] at hc; exact absurd rfl hc
  · have hD : decS t s c = (none, refS t s c) := by unfold decS; rw [if_neg (by simp [hR]), if_pos hrf]
    rw [hD]
    refine ⟨rfl, ?_⟩
    show 0 ≤ refS t s c ∧ refS t s c ≤ 63
    unfold refS
    split
    · omega
    · split
      · omega
      · rename_i r hr
        split
        · omega
        · split
          · omega
          · split
            · omega
            · split at hr
              · exact gdsS_range hR hr _ _
              · cases hr
theorem dec_next {t : Tb} {s : Stt} {c : Cm} (hR : rightB t = true) (hc : (decS t s c).2 = 0) (hx : s.ver ≤ 1099511627000) : mayS t (foldS s (decS t s c).1.list) = true ∧ (foldS s (decS t s c).1.list).ver = s.ver + (decS t s c).1.list.length ∧ ∃ r, 0 ≤ c.rule ∧ t.rules.list[c.rule.toNat]? = some r ∧ (decS t s c).1.list.length = r.steps.list.length ∧ r.steps.list.length ≤ 3 := by
  obtain ⟨r, es, a, v, h0, hr, hmay, e1, e2, e3⟩ := decS_code hR hc
  have hns := right_nsteps hR hr
  have hto : ∀ p ∈ r.steps.list, p.to < (t.states.list.length : Int) := fun p hp => by
    obtain ⟨i, hi, rfl⟩ := List.getElem_of_mem hp
    exact (right_set hR hr i _ (List.getElem?_eq_getElem hi)).1
  unfold mayS at hmay
  simp only [Bool.and_eq_true, decide_eq_true_eq] at hmay
  obtain ⟨⟨⟨⟨⟨m1, m2⟩, m3⟩, m4⟩, m5⟩, m6⟩ := hmay
  obtain ⟨i1, i2, i3⟩ := stepsAt_may hto ⟨m1, m2⟩ m6 s.ver (by omega) (Nat.le_refl _) e3
  have hvl := (stepsAt_evs e3).1
  rw [e1]
  have hf : foldS s (Sl.list (some es)) = ⟨a, s.ver + r.steps.list.length, some v⟩ := i3
  rw [hf]
  refine ⟨?_, by show s.ver + _ = _; rw [← e2]; rfl, r, h0, hr, e2, hns.2⟩
  unfold mayS
  have : (Sl.list (some v)) = v := rfl
  simp only [this, i2, Bool.and_true, Bool.and_eq_true, decide_eq_true_eq]
  omega
end Go.Vi.CYthalmafpobmdoaa
