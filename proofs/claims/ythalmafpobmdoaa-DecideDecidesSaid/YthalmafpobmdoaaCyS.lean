/-
  What becomes of every command, and where streams begin: the walks of the laws.
-/
import Derived.Test.YthalmafpobmdoaaCyR
import Derived.Test.YthalmafpobmdoaaCyM
namespace Go.Vi.CYthalmafpobmdoaa
open Go.Vi Go.Proofs Go.Proofs.Ythalmafpobmdoaa
set_option linter.unusedVariables false
set_option maxHeartbeats 8000000
set_option maxRecDepth 100000
set_option linter.unusedSimpArgs false

theorem right_start {t : Tb} (h : rightB t = true) : valuesOk t.start.list = true := by
  have h0 := (right_table (by rw [← rightB_eq]; exact h)).1
  unfold table' at h0
  split at h0
  · cases h0
  · split at h0
    · have := congrArg Flt.r h0
      simp at this
    · split at h0
      · have := congrArg Flt.r h0
        simp at this
      · split at h0
        · cases h0
        · split at h0
          · have := congrArg Flt.r h0
            simp at this
          · rename_i hsc
            have e : scan (valBad t.start.list) t.start.list.length = none := hsc
            unfold valuesOk; rw [e]; rfl
theorem may_new {t : Tb} (h : rightB t = true) : mayS t (newS t) = true := by
  have h1 := right_states (by rw [← rightB_eq]; exact h)
  have h2 := right_start h
  have e : newS t = ⟨0, 0, some t.start.list⟩ := by rw [newS, if_pos h]
  rw [e]
  unfold mayS
  have e2 : Sl.list (some t.start.list) = t.start.list := rfl
  dsimp only
  rw [e2, h2]
  simp only [Bool.and_true, Bool.and_eq_true, decide_eq_true_eq]
  omega
theorem new_ok {t : Tb} (ht : t.ok) : (newS t).ok := by
  have h0 : w64 0 := by unfold w64; decide
  unfold newS
  split
  · exact ⟨h0, h0, ht.2.2.1.1, ht.2.2.1.2⟩
  · exact ⟨h0, h0, by simp [Sl.ok, Sl.list], fun y hy => by simp [Sl.list] at hy⟩
theorem sameS_self (s : Stt) : sameS s s = true := by simp [sameS]
theorem r_DecideBegins (t : Tb) (s : Stt) (ht : t.ok) (hs : s.ok) (H : Hp) : Runs Try.prog pol 4 [.val (tbV t), .val (sttV s)] H ([.val (.bool true)], [], H) := by
  cases hR : rightB t
  · have hn := r_New t ht (fun h => by rw [hR] at h; cases h)
    have e : newS t = ⟨0, 0, none⟩ := by rw [newS, if_neg (by simp [hR])]
    rw [e] at hn
    have hz : (⟨0, 0, none⟩ : Stt).ok := e ▸ new_ok ht
    have hsm := r_Same ⟨0, 0, none⟩ ⟨0, 0, none⟩ hz hz
    rw [sameS_self] at hsm
    have hri := r_Right t s ht hs
    rw [hR, Bool.false_and] at hri
    refine Runs.told (fn := Try.f4) (n := 44) [(0, .val (tbV t)), (1, .val (sttV s))] [(0, .gone 0), (1, .gone 0)] rfl Try.func4 rfl rfl (by kernel_rfl) rfl (by repeat' constructor) (by repeat' constructor) ?_
    repeat' (first
      | intro _
      | refine Ws ?_
      | (refine Wt ?_ ?_ <;> intro _ <;> try (exfalso; omega))
      | (refine Wu ?_ ?_ <;> intro _)
      | refine Wo.call0 (hn) ?_
      | refine Wo.callB (r_lright _ ht) (fun _ => ?_) (fun _ => ?_)
      | refine Wo.call0 (r_awake) ?_
      | refine Wo.call0 (hsm) ?_
      | refine Wo.call0 (hri) ?_
      | refine Wv ?_
      | refine Wz ?_
      | fail)
    all_goals first
      | rfl
      | (exfalso; have h : rightB t = true := by assumption
         rw [hR] at h; cases h; done)
      | trace_state
  · have hst := right_states (by rw [← rightB_eq]; exact hR)
    have hn := r_New t ht (fun h => by omega)
    have hrn := r_RNew t ht (by omega)
    have e : newS t = startS t := newS_right hR
    have hno : (startS t).ok := e ▸ new_ok ht
    rw [e] at hn
    have hsm := r_Same (startS t) (startS t) hno hno
    rw [sameS_self] at hsm
    have hri := r_Right t s ht hs
    rw [hR, Bool.true_and] at hri
    have hrr := r_R7Right t s ht hs
    have hrn2 := r_Right t (startS t) ht hno
    rw [hR, Bool.true_and, ← e, may_new hR, e] at hrn2
    cases hm : mayS t s <;> rw [hm] at hri hrr
    all_goals
      refine Runs.told (fn := Try.f4) (n := 44) [(0, .val (tbV t)), (1, .val (sttV s))] [(0, .gone 0), (1, .gone 0)] rfl Try.func4 rfl rfl (by kernel_rfl) rfl (by repeat' constructor) (by repeat' constructor) ?_
      repeat' (first
        | intro _
        | refine Ws ?_
        | (refine Wt ?_ ?_ <;> intro _ <;> try (exfalso; omega))
        | (refine Wu ?_ ?_ <;> intro _)
        | refine Wo.call0 (hn) ?_
        | refine Wo.callB (r_lright _ ht) (fun _ => ?_) (fun _ => ?_)
        | refine Wo.call0 (r_awake) ?_
        | refine Wo.call0 (hrn) ?_
        | refine Wo.call0 (hsm) ?_
        | refine Wo.call0 (hri) ?_
        | refine Wo.call0 (hrr) ?_
        | refine Wo.call0 (hrn2) ?_
        | refine Wo.eqB ?_
        | refine Wv ?_
        | refine Wz ?_
        | fail)
      all_goals first
        | rfl
        | (exfalso; have h : rightB t = false := by assumption
           rw [hR] at h; cases h; done)
        | trace_state
theorem eventsS_self (l : List Ev) : eventsS l l = true := by
  have h : scan (evBad l l) l.length = none := scan_none fun j hj => by
    unfold evBad
    rw [List.getElem?_eq_getElem hj]
    simp
  simp [eventsS, h]
theorem stepsAt_evs {l : List Sp} {a0 : Int} {v0 args : List Int} : ∀ {k : Nat} {a : Int} {v : List Int} {es : List Ev}, stepsAt l a0 v0 args k = some (a, v, es) → v.length = v0.length ∧ ∀ z ∈ es, ∃ v', z.vars = some v' ∧ v'.length = v0.length
  | 0, a, v, es, h => by simp only [stepsAt, Option.some.injEq, Prod.mk.injEq] at h; obtain ⟨_, rfl, rfl⟩ := h; exact ⟨rfl, fun z hz => by cases hz⟩
  | k + 1, a, v, es, h => by
    rw [stepsAt] at h
    cases h1 : stepsAt l a0 v0 args k with
    | none => rw [h1] at h; cases h
    | some q =>
      obtain ⟨a1, v1, es1⟩ := q
      cases h2 : l[k]? with
      | none => rw [h1, h2] at h; cases h
      | some p =>
        rw [h1, h2] at h
        simp only at h
        cases h3 : stepS p a1 v1 args with
        | none => rw [h3] at h; cases h
        | some q2 =>
          obtain ⟨a2, v2⟩ := q2
          rw [h3] at h
          simp only [Option.some.injEq, Prod.mk.injEq] at h
          obtain ⟨rfl, rfl, rfl⟩ := h
          have h4 := stepsAt_evs h1
          have h5 := stepS_len h3
          refine ⟨by omega, fun z hz => ?_⟩
          rcases List.mem_append.1 hz with hz | hz
          · exact h4.2 z hz
          · simp at hz; subst hz; exact ⟨_, rfl, by omega⟩
theorem decS_evs {t : Tb} {s : Stt} {c : Cm} (ht : t.ok) (hs : s.ok) : Sl.ok (decS t s c).1 ∧ ∀ z ∈ (decS t s c).1.list, Sl.ok z.vars := by
  have h0 : Sl.ok (none : Sl Ev) ∧ ∀ z ∈ Sl.list (none : Sl Ev), Sl.ok z.vars := ⟨by simp [Sl.ok, Sl.list], fun z hz => by simp [Sl.list] at hz⟩
  unfold decS
  split
  · exact h0
  · split
    · exact h0
    · split
      · exact h0
      · rename_i r hr
        split
        · rename_i a v es h1
          have h2 := stepsAt_evs h1
          have h3 := stepsAt_len h1
          have hro : r.ok := by
            split at hr
            · exact ht.2.2.2.2 r (List.mem_of_getElem? hr)
            · cases hr
          have h4 := hro.2.2.2.2.1
          have h5 := hs.2.2.1
          unfold Sl.ok at h4 h5
          refine ⟨by show es.length ≤ _; omega, fun z hz => ?_⟩
          obtain ⟨v', e1, e2⟩ := h2.2 z hz
          unfold Sl.ok
          rw [e1]
          show v'.length ≤ _
          omega
        · exact h0
theorem r_DecideDecides0 (t : Tb) (s : Stt) (c : Cm) (ht : t.ok) (hs : s.ok) (hsf : Sl.fit s.vars) (hc : c.ok) (hR : rightB t = false) (H : Hp) : Runs Try.prog pol 3 [.val (tbV t), .val (sttV s), .val (cmV c)] H ([.val (.bool true)], [], H) := by
  unfold Sl.fit at hsf
  have hd := r_Decide t s c ht hs hc
  have e : decS t s c = (none, 1) := by unfold decS; rw [if_pos hR]
  rw [e] at hd
  refine Runs.told (fn := Try.f3) (n := 64) [(0, .val (tbV t)), (1, .val (sttV s)), (2, .val (cmV c))] [(0, .gone 0), (1, .gone 0), (2, .gone 0)] rfl Try.func3 rfl rfl (by kernel_rfl) rfl (by repeat' constructor) (by repeat' constructor) ?_
  repeat' (first
    | intro _
    | refine Ws ?_
    | (refine Wt ?_ ?_ <;> intro _ <;> try (exfalso; omega))
    | (refine Wu ?_ ?_ <;> intro _)
    | refine Wv ?_
    | refine Wz ?_
    | fail)
  refine Wo.appG (by8 := 8) (fun g2 hne => ?_) (fun hem => ?_) ⟨hsf, by omega⟩
  · refine Wo.buildSt ?_
    repeat' (first
      | intro _
      | refine Ws ?_
      | (refine Wt ?_ ?_ <;> intro _ <;> try (exfalso; omega))
      | (refine Wu ?_ ?_ <;> intro _)
      | refine Wo.call0 (hd) ?_
      | refine Wo.callB (r_lright _ ht) (fun _ => ?_) (fun _ => ?_)
      | refine Wo.call0 (r_awake) ?_
      | refine Wv ?_
      | refine Wz ?_
      | fail)
    all_goals first
      | rfl
      | (exfalso; have h : rightB t = true := by assumption
         rw [hR] at h; cases h; done)
      | (exfalso; rename_i h; exact h rfl)
      | trace_state
  · refine Wo.buildFl ?_
    repeat' (first
      | intro _
      | refine Ws ?_
      | (refine Wt ?_ ?_ <;> intro _ <;> try (exfalso; omega))
      | (refine Wu ?_ ?_ <;> intro _)
      | refine Wo.call0 (hd) ?_
      | refine Wo.callB (r_lright _ ht) (fun _ => ?_) (fun _ => ?_)
      | refine Wo.call0 (r_awake) ?_
      | refine Wv ?_
      | refine Wz ?_
      | fail)
    all_goals first
      | rfl
      | (exfalso; rename_i h; exact h rfl)
      | (exfalso; have h : rightB t = true := by assumption
         rw [hR] at h; cases h; done)
      | trace_state
end Go.Vi.CYthalmafpobmdoaa
