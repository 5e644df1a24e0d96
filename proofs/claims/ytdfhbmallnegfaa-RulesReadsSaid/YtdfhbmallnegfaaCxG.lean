/-
  Which states can be reached: the plain law.
-/
import Derived.Test.YtdfhbmallnegfaaCxF
namespace Go.Vi.CYtdfhbmallnegfaa
open Go.Vi Go.Proofs Go.Proofs.Ytdfhbmallnegfaa
set_option linter.unusedVariables false
set_option maxHeartbeats 8000000
set_option linter.unusedSimpArgs false

def toF (s : Int) (x : Sp) : Int := if 0 ≤ x.to then x.to else s
def to' (r : Rl) (s : Int) : Int := r.steps.list.foldl toF s

theorem first0_ok {o : Option (Nat × Int)} {p : Nat → Option Int} {n : Nat} (ho : o = scan p n) (hp : ∀ i e, p i = some e → e ≠ 0) (h : (first0 o).2 = 0) : ∀ i, i < n → p i = none := by
  subst ho
  intro i hi
  cases hpi : p i with
  | none => rfl
  | some e =>
    exfalso
    -- the first one
    have : ∃ k e, (∀ j, j < k → p j = none) ∧ p k = some e ∧ k < n := by
      have key : ∀ m : Nat, m ≤ n → (∃ k e, (∀ j, j < k → p j = none) ∧ p k = some e ∧ k < n) ∨ ∀ j, j < m → p j = none := by
        intro m
        induction m with
        | zero => intro _; exact .inr fun j hj => by omega
        | succ m ih =>
          intro hm
          rcases ih (by omega) with h | h
          · exact .inl h
          · cases hm' : p m with
            | none => exact .inr (none_succ h hm')
            | some e => exact .inl ⟨m, e, h, hm', by omega⟩
      rcases key n (Nat.le_refl _) with h | h
      · exact h
      · rw [h i hi] at hpi; cases hpi
    obtain ⟨k, e', h1, h2, h3⟩ := this
    rw [scan_found h1 h2 h3] at h
    exact hp k e' h2 h
theorem scan_ok {β : Type} {p : Nat → Option β} {n : Nat} (h : scan p n = none) : ∀ i, i < n → p i = none := by
  intro i hi
  cases hpi : p i with
  | none => rfl
  | some e =>
    exfalso
    have key : ∀ m : Nat, m ≤ n → (∃ k e, (∀ j, j < k → p j = none) ∧ p k = some e ∧ k < n) ∨ ∀ j, j < m → p j = none := by
      intro m
      induction m with
      | zero => intro _; exact .inr fun j hj => by omega
      | succ m ih =>
        intro hm
        rcases ih (by omega) with h | h
        · exact .inl h
        · cases hm' : p m with
          | none => exact .inr (none_succ h hm')
          | some e => exact .inl ⟨m, e, h, hm', by omega⟩
    rcases key n (Nat.le_refl _) with h' | h'
    · obtain ⟨k, e', h1, h2, h3⟩ := h'
      rw [scan_found h1 h2 h3] at h; cases h
    · rw [h' i hi] at hpi; cases hpi

section
variable {t : Tb}
theorem right_zero (h : right' t = true) : check' t = ⟨0, 0, 0, 0⟩ := Flt.z_eq h
theorem right_table (h : right' t = true) : table' t = ⟨0, 0, 0, 0⟩ ∧ ∀ i, i < t.rules.list.length → ruleBad t i = none := by
  have h0 := right_zero h
  cases hz : (table' t).z with
  | false =>
    exfalso
    have e : check' t = table' t := by unfold check'; rw [hz]; rfl
    rw [e] at h0
    rw [h0] at hz
    exact absurd hz (by decide)
  | true =>
    refine ⟨Flt.z_eq hz, ?_⟩
    unfold check' at h0
    rw [hz, if_pos rfl] at h0
    cases hs : scan (ruleBad t) t.rules.list.length with
    | none => exact scan_ok hs
    | some q =>
      exfalso
      obtain ⟨k, f⟩ := q
      rw [hs] at h0
      simp only at h0
      have : ∀ (m i : Nat), scanFrom (ruleBad t) i m = some (k, f) → ruleBad t k = some f := by
        intro m
        induction m with
        | zero => intro i h; cases h
        | succ m ih =>
          intro i h
          rw [scanFrom] at h
          cases hb : ruleBad t i with
          | none => rw [hb] at h; exact ih _ h
          | some b => rw [hb] at h; simp at h; obtain ⟨rfl, rfl⟩ := h; exact hb
      have hb := this _ _ hs
      unfold ruleBad at hb
      cases hr : t.rules.list[k]? with
      | none => rw [hr] at hb; cases hb
      | some r =>
        rw [hr] at hb
        simp only at hb
        split at hb
        · cases hb
        · rename_i hn
          simp only [Option.some.injEq] at hb
          rw [hb, h0] at hn
          exact hn (by decide)
theorem right_states (h : right' t = true) : 0 < t.states.list.length ∧ t.states.list.length ≤ 8 ∧ t.vars.list.length ≤ 6 ∧ t.start.list.length = t.vars.list.length ∧ t.rules.list.length ≤ 12 := by
  have h0 := (right_table h).1
  unfold table' at h0
  split at h0
  · cases h0
  · rename_i a
    split at h0
    · rename_i b
      have := congrArg Flt.r h0
      simp at this
    · rename_i b
      split at h0
      · have := congrArg Flt.r h0
        simp at this
      · rename_i c
        split at h0
        · cases h0
        · rename_i d
          split at h0
          · have := congrArg Flt.r h0
            simp at this
          · split at h0
            · cases h0
            · rename_i e
              have hb : (names t.states.list 8).2 = 0 := by omega
              have hc : (names t.vars.list 6).2 = 0 := by omega
              have hs : ¬ (t.states.list.length : Int) > 8 := fun hh => by unfold names at hb; rw [if_pos hh] at hb; cases hb
              have hv : ¬ (t.vars.list.length : Int) > 6 := fun hh => by unfold names at hc; rw [if_pos hh] at hc; cases hc
              omega
theorem right_rule (h : right' t = true) {n : Nat} {r : Rl} (hr : t.rules.list[n]? = some r) : rule' t n r = ⟨0, 0, 0, 0⟩ := by
  have hn : n < t.rules.list.length := by
    rcases Nat.lt_or_ge n t.rules.list.length with h | h
    · exact h
    · rw [List.getElem?_eq_none h] at hr; cases hr
  have hb := (right_table h).2 n hn
  unfold ruleBad at hb
  rw [hr] at hb
  simp only at hb
  split at hb
  · rename_i hz; exact Flt.z_eq hz
  · cases hb
theorem right_parts (h : right' t = true) {n : Nat} {r : Rl} (hr : t.rules.list[n]? = some r) :
    nameOk r.name = true ∧ ¬ find' t.rules.list r.name < n ∧ ¬ (r.args < 0 ∨ 4 < r.args) ∧ (from' r.fr.list t.states.list.length).2 = 0 ∧ (guards' r.guards.list t.vars.list.length r.args).2 = 0 ∧ (steps' r.steps.list t.states.list.length t.vars.list.length r.args).2 = 0 := by
  have h0 := right_rule h hr
  unfold rule' at h0
  split at h0
  · cases h0
  · rename_i a
    split at h0
    · cases h0
    · rename_i b
      split at h0
      · cases h0
      · rename_i c
        split at h0
        · rename_i d; exact absurd (congrArg Flt.e h0) d
        · rename_i d
          split at h0
          · rename_i e; exact absurd (congrArg Flt.e h0) e
          · rename_i e
            split at h0
            · rename_i f; exact absurd (congrArg Flt.e h0) f
            · rename_i f
              exact ⟨by simpa using a, b, c, by omega, by omega, by omega⟩
theorem spBad_ne {l : List Sp} {a b c : Int} (i : Nat) (e : Int) (h : spBad l a b c i = some e) : e ≠ 0 := by
  unfold spBad at h
  split at h
  · split at h
    · cases h; decide
    · split at h
      · cases h
      · rename_i hne; cases h; exact hne
  · cases h
theorem right_steps (h : right' t = true) {n : Nat} {r : Rl} (hr : t.rules.list[n]? = some r) : ∀ i, i < r.steps.list.length → spBad r.steps.list t.states.list.length t.vars.list.length r.args i = none := by
  have h0 := (right_parts h hr).2.2.2.2.2
  unfold steps' at h0
  split at h0
  · cases h0
  · split at h0
    · cases h0
    · exact first0_ok rfl spBad_ne h0
theorem right_to (h : right' t = true) {n : Nat} {r : Rl} (hr : t.rules.list[n]? = some r) : ∀ x ∈ r.steps.list, x.to < t.states.list.length := by
  intro x hx
  obtain ⟨i, hi, rfl⟩ := List.getElem_of_mem hx
  have := right_steps h hr i hi
  unfold spBad at this
  rw [List.getElem?_eq_getElem hi] at this
  simp only at this
  split at this
  · cases this
  · omega
theorem to_range {n : Nat} {l : List Sp} (h : ∀ x ∈ l, x.to < (n : Int)) : ∀ {s : Int}, 0 ≤ s ∧ s < n → 0 ≤ l.foldl toF s ∧ l.foldl toF s < n := by
  induction l with
  | nil => intro s hs; exact hs
  | cons x r ih =>
    intro s hs
    refine ih (fun y hy => h y (List.mem_cons_of_mem _ hy)) ?_
    unfold toF
    have := h x (List.mem_cons_self ..)
    split <;> omega
end

/-- from state a state c is one rule away -/
inductive Rch (t : Tb) : Int → Prop
  | zero : Rch t 0
  | step {a : Int} {n : Nat} {r : Rl} (h : Rch t a) (hr : t.rules.list[n]? = some r) (hf : for' t n a = true) : Rch t (to' r a)

/-- what holds of what is marked and what waits; ex: the state whose rules are being looked at, from which rule on -/
structure RInv (t : Tb) (O : List Bool) (W : List Int) (ex : Option (Int × Nat)) : Prop where
  len : O.length = t.states.list.length
  wr : ∀ s ∈ W, 0 ≤ s ∧ s < t.states.list.length ∧ Rch t s
  outr : ∀ a : Nat, O[a]? = some true → Rch t a
  zero : 0 ∈ W ∨ O[0]? = some true
  cl : ∀ a : Nat, O[a]? = some true → ∀ (n : Nat) (r : Rl), t.rules.list[n]? = some r → for' t n a = true → (∀ s k, ex = some (s, k) → (a : Int) = s → n < k) → to' r a ∈ W ∨ O[(to' r a).toNat]? = some true

section
variable {t : Tb} {O : List Bool} {W : List Int} {s : Int} {k : Nat} {r : Rl}
theorem RInv.start (h : right' t = true) : RInv t (List.replicate t.states.list.length false) [0] none := by
  have hs := right_states h
  refine ⟨by simp, fun s hs' => ?_, fun a ha => ?_, .inl (by simp), fun a ha => ?_⟩
  · simp at hs'; subst hs'; exact ⟨by omega, by omega, .zero⟩
  · rw [List.getElem?_replicate] at ha; split at ha <;> simp at ha
  · rw [List.getElem?_replicate] at ha; split at ha <;> simp at ha
theorem RInv.seen (I : RInv t O (W ++ [s]) none) (ho : O[s.toNat]? = some true) : RInv t O W none := by
  have hs := I.wr s (by simp)
  refine ⟨I.len, fun s' h => I.wr s' (by simp [h]), I.outr, ?_, fun a ha n r hr hf _ => ?_⟩
  · rcases I.zero with h | h
    · rcases List.mem_append.1 h with h | h
      · exact .inl h
      · simp at h; subst h; exact .inr (by simpa using ho)
    · exact .inr h
  · rcases I.cl a ha n r hr hf (fun s k h => by cases h) with h | h
    · rcases List.mem_append.1 h with h | h
      · exact .inl h
      · simp at h; rw [h]; exact .inr ho
    · exact .inr h
theorem RInv.fresh (I : RInv t O (W ++ [s]) none) : RInv t (O.set s.toNat true) W (some (s, 0)) := by
  have hs := I.wr s (by simp)
  have hl : s.toNat < O.length := by rw [I.len]; omega
  have hset : ∀ a : Nat, (O.set s.toNat true)[a]? = some true → (a : Int) = s ∨ O[a]? = some true := fun a ha => by
    rw [List.getElem?_set] at ha
    split at ha
    · left; omega
    · exact .inr ha
  have hup : ∀ a : Nat, O[a]? = some true → (O.set s.toNat true)[a]? = some true := fun a ha => by
    rw [List.getElem?_set]
    split
    · rename_i e; subst e; simp [hl]
    · exact ha
  have hself : (O.set s.toNat true)[s.toNat]? = some true := by rw [List.getElem?_set_self hl]
  refine ⟨by simp [I.len], fun s' h => I.wr s' (by simp [h]), fun a ha => ?_, ?_, fun a ha n r hr hf hex => ?_⟩
  · rcases hset a ha with h | h
    · rw [h]; exact hs.2.2
    · exact I.outr a h
  · rcases I.zero with h | h
    · rcases List.mem_append.1 h with h | h
      · exact .inl h
      · simp at h; subst h; exact .inr (by simpa using hself)
    · exact .inr (hup 0 h)
  · rcases hset a ha with h | h
    · exact absurd (hex s 0 rfl h) (by omega)
    · rcases I.cl a h n r hr hf (fun s k h => by cases h) with h | h
      · rcases List.mem_append.1 h with h | h
        · exact .inl h
        · simp at h; rw [h]; exact .inr hself
      · exact .inr (hup _ h)
theorem RInv.push (hR : right' t = true) (I : RInv t O W (some (s, k))) (hs : 0 ≤ s ∧ s < t.states.list.length ∧ Rch t s) (hr : t.rules.list[k]? = some r) (hf : for' t k s = true) : RInv t O (W ++ [to' r s]) (some (s, k + 1)) := by
  have hto := to_range (right_to hR hr) ⟨hs.1, hs.2.1⟩
  refine ⟨I.len, fun s' h => ?_, I.outr, ?_, fun a ha n r' hr' hf' hex => ?_⟩
  · rcases List.mem_append.1 h with h | h
    · exact I.wr s' h
    · simp at h; subst h; exact ⟨hto.1, hto.2, .step hs.2.2 hr hf⟩
  · exact I.zero.imp (fun h => by simp [h]) id
  · by_cases hk : (a : Int) = s ∧ n = k
    · obtain ⟨rfl, rfl⟩ := hk
      rw [hr] at hr'; cases hr'
      exact .inl (by simp)
    · rcases I.cl a ha n r' hr' hf' (fun s' k' e h => by cases e; have := hex s (k + 1) rfl h; have : n ≠ k := fun e => hk ⟨h, e⟩; omega) with h | h
      · exact .inl (by simp [h])
      · exact .inr h
theorem RInv.pass (I : RInv t O W (some (s, k))) (hf : for' t k s = false) : RInv t O W (some (s, k + 1)) := by
  refine ⟨I.len, I.wr, I.outr, I.zero, fun a ha n r' hr' hf' hex => ?_⟩
  by_cases hk : (a : Int) = s ∧ n = k
  · obtain ⟨rfl, rfl⟩ := hk
    rw [hf] at hf'; cases hf'
  · exact I.cl a ha n r' hr' hf' (fun s' k' e h => by cases e; have := hex s (k + 1) rfl h; have : n ≠ k := fun e => hk ⟨h, e⟩; omega)
theorem RInv.over (I : RInv t O W (some (s, t.rules.list.length))) : RInv t O W none :=
  ⟨I.len, I.wr, I.outr, I.zero, fun a ha n r hr hf _ => I.cl a ha n r hr hf (fun s' k' e _ => by
    cases e
    rcases Nat.lt_or_ge n t.rules.list.length with h | h
    · exact h
    · rw [List.getElem?_eq_none h] at hr; cases hr)⟩

open Classical in
noncomputable def reach' (t : Tb) : List Bool := (List.range t.states.list.length).map fun a : Nat => decide (Rch t (a : Int))
open Classical in
theorem RInv.final (hR : right' t = true) (I : RInv t O [] none) : O = reach' t := by
  have key : ∀ a : Int, Rch t a → 0 ≤ a ∧ a < t.states.list.length ∧ O[a.toNat]? = some true := by
    intro a h
    induction h with
    | zero => exact ⟨by omega, by have := right_states hR; omega, by rcases I.zero with h | h; cases h; exact h⟩
    | step h hr hf ih =>
      rename_i a n r
      have hto := to_range (right_to hR hr) ⟨ih.1, ih.2.1⟩
      refine ⟨hto.1, hto.2, ?_⟩
      have ha : ((a.toNat : Nat) : Int) = a := by omega
      rcases I.cl a.toNat ih.2.2 n r hr (by rw [ha]; exact hf) (fun s k h => by cases h) with h | h
      · cases h
      · rw [ha] at h; exact h
  apply List.ext_getElem?
  intro i
  unfold reach'
  rw [List.getElem?_map]
  by_cases hi : i < t.states.list.length
  · rw [List.getElem?_range hi, Option.map_some]
    have hl : i < O.length := by rw [I.len]; exact hi
    rw [List.getElem?_eq_getElem hl]
    congr 1
    cases ho : O[i] with
    | true => exact (decide_eq_true (I.outr i (by rw [List.getElem?_eq_getElem hl, ho]))).symm
    | false =>
      refine (decide_eq_false fun hr => ?_).symm
      have := (key i hr).2.2
      rw [Int.toNat_natCast, List.getElem?_eq_getElem hl, ho] at this
      cases this
  · rw [List.getElem?_eq_none (by rw [I.len]; omega), List.getElem?_eq_none (by simp; omega)]; rfl
end
end Go.Vi.CYtdfhbmallnegfaa
