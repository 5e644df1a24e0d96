/-
  What becomes of commands: told as plain functions; what is right of a table's rules.
-/
import Derived.Test.YthalmafpobmdoaaCyK
namespace Go.Vi.CYthalmafpobmdoaa
open Go.Vi Go.Proofs Go.Proofs.Ythalmafpobmdoaa
set_option linter.unusedVariables false
set_option maxHeartbeats 8000000
set_option maxRecDepth 100000
set_option linter.unusedSimpArgs false

structure Cm where
  client : Int
  seq : Int
  stream : ByteArray
  rule : Int
  args : Sl Int
  exp : Int
@[reducible] def cmV (c : Cm) : VV := .agg [iv c.client, iv c.seq, .str c.stream, iv c.rule, slV iv c.args, iv c.exp]
def Cm.ok (c : Cm) : Prop := w64 c.client ∧ w64 c.seq ∧ c.stream.size ≤ 140737488351232 ∧ w64 c.rule ∧ (Sl.ok c.args ∧ ∀ y ∈ c.args.list, w64 y) ∧ w64 c.exp

/-- what is set, up to the k-th -/
def setAt (l : List St) (vars args : List Int) : Nat → Option (List Int)
  | 0 => some vars
  | k + 1 => match setAt l vars args k, l[k]? with
    | some nx, some y => if (eEval y.value.list vars args).2 = 0 then some (nx.set y.var.toNat (eEval y.value.list vars args).1) else none
    | _, _ => none
def stepS (p : Sp) (a : Int) (vars args : List Int) : Option (Int × List Int) :=
  match setAt p.sets.list vars args p.sets.list.length with
  | some nx => some (if 0 ≤ p.to then p.to else a, nx)
  | none => none
def stepsAt (l : List Sp) (a0 : Int) (v0 args : List Int) : Nat → Option (Int × List Int × List Ev)
  | 0 => some (a0, v0, [])
  | k + 1 => match stepsAt l a0 v0 args k, l[k]? with
    | some (a, v, es), some p => (match stepS p a v args with | some (a', v') => some (a', v', es ++ [⟨a', some v'⟩]) | none => none)
    | _, _ => none
theorem setAt_none {l : List St} {vars args : List Int} {k : Nat} (h : setAt l vars args k = none) : ∀ m, k ≤ m → setAt l vars args m = none := by
  intro m hm
  induction m with
  | zero => have : k = 0 := by omega
            subst this; exact h
  | succ m ih =>
    rcases Nat.lt_or_ge m k with hk | hk
    · have : k = m + 1 := by omega
      subst this; exact h
    · rw [setAt, ih hk]
theorem setAt_len {l : List St} {vars args : List Int} : ∀ {k : Nat} {nx : List Int}, setAt l vars args k = some nx → nx.length = vars.length
  | 0, nx, h => by cases h; rfl
  | k + 1, nx, h => by
    rw [setAt] at h
    cases h1 : setAt l vars args k with
    | none => rw [h1] at h; cases h
    | some n1 =>
      cases h2 : l[k]? with
      | none => rw [h1, h2] at h; cases h
      | some y =>
        rw [h1, h2] at h
        simp only at h
        split at h
        · simp only [Option.some.injEq] at h
          rw [← h, List.length_set]; exact setAt_len h1
        · cases h
theorem stepS_len {p : Sp} {a : Int} {v args : List Int} {a' : Int} {v' : List Int} (h : stepS p a v args = some (a', v')) : v'.length = v.length := by
  unfold stepS at h
  cases hs : setAt p.sets.list v args p.sets.list.length with
  | none => rw [hs] at h; cases h
  | some nx => rw [hs] at h; simp only [Option.some.injEq, Prod.mk.injEq] at h; rw [← h.2]; exact setAt_len hs
theorem stepsAt_none {l : List Sp} {a0 : Int} {v0 args : List Int} {k : Nat} (h : stepsAt l a0 v0 args k = none) : ∀ m, k ≤ m → stepsAt l a0 v0 args m = none := by
  intro m hm
  induction m with
  | zero => have : k = 0 := by omega
            subst this; exact h
  | succ m ih =>
    rcases Nat.lt_or_ge m k with hk | hk
    · have : k = m + 1 := by omega
      subst this; exact h
    · rw [stepsAt, ih hk]
theorem stepsAt_succ {l : List Sp} {a0 : Int} {v0 args : List Int} {k : Nat} {a : Int} {v : List Int} {es : List Ev} {p : Sp} (h : stepsAt l a0 v0 args k = some (a, v, es)) (hp : l[k]? = some p) :
    stepsAt l a0 v0 args (k + 1) = (match stepS p a v args with | some (a', v') => some (a', v', es ++ [⟨a', some v'⟩]) | none => none) := by rw [stepsAt, h, hp]
/-- a guard: 0: it lets by -/
def gdS (vars args : List Int) (g : Gd) : Int := if (eEval g.test.list vars args).2 ≠ 0 then 5 else if (eEval g.test.list vars args).1 = 0 then g.code else 0
def gdHit (vars args : List Int) (l : List Gd) (i : Nat) : Option Int := match l[i]? with
  | some g => if gdS vars args g = 0 then none else some (gdS vars args g)
  | none => none
def gdsS (vars args : List Int) (l : List Gd) : Int := match scan (gdHit vars args l) l.length with
  | some (_, e) => e
  | none => 0
def refS (t : Tb) (s : Stt) (c : Cm) : Int :=
  if mayS t s = false then 3 else match (if 0 ≤ c.rule then t.rules.list[c.rule.toNat]? else none) with
  | none => 1
  | some r => if (c.args.list.length : Int) ≠ r.args ∨ valuesOk c.args.list = false then 2 else if for' t c.rule s.at' = false then 3 else if 0 ≤ c.exp ∧ c.exp ≠ s.ver then 4 else gdsS s.vars.list c.args.list r.guards.list
def decS (t : Tb) (s : Stt) (c : Cm) : Sl Ev × Int :=
  if rightB t = false then (none, 1) else if refS t s c ≠ 0 then (none, refS t s c) else match (if 0 ≤ c.rule then t.rules.list[c.rule.toNat]? else none) with
  | none => (none, 1)
  | some r => match stepsAt r.steps.list s.at' s.vars.list c.args.list r.steps.list.length with
    | some (_, _, es) => (some es, 0)
    | none => (none, 5)

theorem gdBad_ne {l : List Gd} {a b : Int} (i : Nat) (e : Int) (h : gdBad l a b i = some e) : e ≠ 0 := by
  unfold gdBad at h
  split at h
  · split at h
    · cases h; decide
    · split at h
      · cases h
      · rename_i hne; cases h; exact hne
  · cases h
theorem stBad_ne {l : List St} {a b : Int} (i : Nat) (e : Int) (h : stBad l a b i = some e) : e ≠ 0 := by
  unfold stBad at h
  split at h
  · split at h
    · cases h; decide
    · split at h
      · cases h; decide
      · split at h
        · cases h
        · rename_i hne; cases h; exact hne
  · cases h
theorem right_guard {t : Tb} (h : rightB t = true) {n : Nat} {r : Rl} (hr : t.rules.list[n]? = some r) : ∀ (i : Nat) (g : Gd), r.guards.list[i]? = some g → 16 ≤ g.code ∧ g.code ≤ 63 := by
  have h0 := (right_parts (by rw [← rightB_eq]; exact h) hr).2.2.2.2.1
  unfold guards' at h0
  split at h0
  · cases h0
  · have hb := first0_ok rfl gdBad_ne h0
    intro i g hg
    have hi : i < r.guards.list.length := (List.getElem?_eq_some_iff.1 hg).1
    have := hb i hi
    unfold gdBad at this
    rw [hg] at this
    simp only at this
    split at this
    · cases this
    · omega
theorem right_nsteps {t : Tb} (h : rightB t = true) {n : Nat} {r : Rl} (hr : t.rules.list[n]? = some r) : 1 ≤ r.steps.list.length ∧ r.steps.list.length ≤ 3 := by
  have h0 := (right_parts (by rw [← rightB_eq]; exact h) hr).2.2.2.2.2
  unfold steps' at h0
  split at h0
  · cases h0
  · split at h0
    · cases h0
    · omega
theorem right_set {t : Tb} (h : rightB t = true) {n : Nat} {r : Rl} (hr : t.rules.list[n]? = some r) : ∀ (i : Nat) (p : Sp), r.steps.list[i]? = some p → p.to < t.states.list.length ∧ ∀ (j : Nat) (y : St), p.sets.list[j]? = some y → 0 ≤ y.var ∧ y.var < t.vars.list.length := by
  intro i p hp
  have hi : i < r.steps.list.length := (List.getElem?_eq_some_iff.1 hp).1
  have hb := right_steps (by rw [← rightB_eq]; exact h) hr i hi
  unfold spBad at hb
  rw [hp] at hb
  simp only at hb
  split at hb
  · cases hb
  · rename_i hto
    refine ⟨by omega, fun j y hy => ?_⟩
    split at hb
    · rename_i hs
      unfold sets' at hs
      have := first0_ok rfl stBad_ne hs j (List.getElem?_eq_some_iff.1 hy).1
      unfold stBad at this
      rw [hy] at this
      simp only at this
      split at this
      · cases this
      · omega
    · cases hb
end Go.Vi.CYthalmafpobmdoaa
