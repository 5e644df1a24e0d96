/-
  Which variables a rule names, and which it sets: the plain law.
-/
import Derived.Test.YtdfhbmallnegfaaCxY
import Derived.Test.YtdfhbmallnegfaaCxG
namespace Go.Vi.CYtdfhbmallnegfaa
open Go.Vi Go.Proofs Go.Proofs.Ytdfhbmallnegfaa
set_option linter.unusedVariables false
set_option linter.unusedSimpArgs false

theorem getD_set {l : List Bool} {i n : Nat} (h : n < l.length) : (l.set n true).getD i false = (l.getD i false || decide (n = i)) := by
  rw [List.getD_eq_getElem?_getD, List.getD_eq_getElem?_getD, List.getElem?_set]
  by_cases e : n = i
  · subst e; rw [if_pos rfl, if_pos h]; simp
  · rw [if_neg e]; simp [e]
theorem getD_pad {l : List Bool} {k i : Nat} : (l ++ List.replicate k false).getD i false = l.getD i false := by
  rw [List.getD_eq_getElem?_getD, List.getD_eq_getElem?_getD]
  by_cases h : i < l.length
  · rw [List.getElem?_append_left h]
  · rw [List.getElem?_append_right (by omega), List.getElem?_replicate, List.getElem?_eq_none (by omega : l.length ≤ i)]
    split <;> rfl
theorem putL_get {es : List Bool} {n i : Nat} : (putL es n).getD i false = (es.getD i false || decide (n = i)) := by
  unfold putL
  rw [getD_set (by rw [List.length_append, List.length_replicate]; omega), getD_pad]
theorem uses_get {l : List Ins} {i : Nat} (hi : i < 6) : ∀ {k : Nat}, (usesAt 2 6 l k).list.getD i false = (l.take k).any fun x => decide (x.op = 2) && decide (x.n = (i : Int))
  | 0 => by simp [usesAt, Sl.list]
  | k + 1 => by
    have ih := uses_get (l := l) hi (k := k)
    rw [List.take_add_one, List.any_append]
    unfold usesAt
    cases hk : l[k]? with
    | none => simp only [Option.toList_none, List.any_nil, Bool.or_false]; exact ih
    | some x =>
      simp only [Option.toList_some, List.any_cons, List.any_nil, Bool.or_false]
      by_cases h2 : x.op = 2
      · rw [if_pos h2, ← ih]
        unfold putU
        by_cases hn : x.n < 0 ∨ 6 ≤ x.n
        · have hne : ¬ x.n = (i : Int) := by omega
          rw [if_pos hn]; simp [h2, hne]
        · rw [if_neg hn]
          show (putL _ _).getD i false = _
          rw [putL_get]
          have : (x.n.toNat = i) = (x.n = (i : Int)) := by apply propext; omega
          simp [h2, this]
      · rw [if_neg h2, ih]; simp [h2]
def codeVars (l : List Ins) (V : Nat) : Prop := ∀ x ∈ l, x.op = 2 → 0 ≤ x.n ∧ x.n < V
theorem uses_lenV {l : List Ins} {V : Nat} (h : codeVars l V) : ∀ {k : Nat}, (usesAt 2 6 l k).list.length ≤ V
  | 0 => by simp [usesAt, Sl.list]
  | k + 1 => by
    have ih := uses_lenV h (k := k)
    unfold usesAt
    cases hk : l[k]? with
    | none => exact ih
    | some x =>
      simp only
      by_cases h2 : x.op = 2
      · have hx := h x (List.mem_of_getElem? hk) h2
        rw [if_pos h2]
        unfold putU
        by_cases hn : x.n < 0 ∨ 6 ≤ x.n
        · rw [if_pos hn]; exact ih
        · rw [if_neg hn]
          show (putL _ _).length ≤ V
          rw [putL_len]; omega
      · rw [if_neg h2]; exact ih
theorem usesL_get {s : Sl Ins} {i : Nat} (hi : i < 6) : (usesL s).getD i false = namesB s.list i := by
  unfold usesL namesB
  rw [uses_get hi, List.take_length]
theorem orK_get {l U : List Bool} {i : Nat} (hU : U.length ≤ l.length) : ∀ {k : Nat}, k ≤ U.length → (orK l U k).getD i false = (l.getD i false || (decide (i < k) && U.getD i false))
  | 0, _ => by simp [orK]
  | k + 1, hk => by
    have ih := fun j => orK_get (i := j) hU (k := k) (by omega)
    have hkl : k < (orK l U k).length := by rw [orK_len]; omega
    rw [orK, List.getD_eq_getElem?_getD, List.getElem?_set]
    by_cases e : k = i
    · subst e
      rw [if_pos rfl, if_pos hkl, Option.getD_some, ih k]
      have : decide (k < k + 1) = true := by simp
      simp
    · rw [if_neg e, ← List.getD_eq_getElem?_getD, ih i]
      have : decide (i < k) = decide (i < k + 1) := by
        by_cases h : i < k
        · simp [h, show i < k + 1 by omega]
        · simp [h, show ¬ i < k + 1 by omega]
      rw [this]
theorem addC_get {l : List Bool} {s : Sl Ins} {i : Nat} (hi : i < 6) (hU : (usesL s).length ≤ l.length) : (addC l s).getD i false = (l.getD i false || namesB s.list i) := by
  unfold addC
  rw [orK_get hU (Nat.le_refl _), ← usesL_get hi]
  by_cases h : i < (usesL s).length
  · simp [h]
  · rw [List.getD_eq_getElem?_getD (l := usesL s), List.getElem?_eq_none (by omega : (usesL s).length ≤ i)]; simp
theorem foldl_or {β : Type} {f : List Bool → β → List Bool} {p : β → Bool} {i n : Nat} : ∀ {l : List β} {z : List Bool}, z.length = n → (∀ a b, b ∈ l → a.length = n → (f a b).length = n ∧ (f a b).getD i false = (a.getD i false || p b)) → (l.foldl f z).length = n ∧ (l.foldl f z).getD i false = (z.getD i false || l.any p)
  | [], z, hz, _ => ⟨hz, by simp⟩
  | b :: l, z, hz, h => by
    obtain ⟨h1, h2⟩ := h z b (List.mem_cons_self ..) hz
    obtain ⟨h3, h4⟩ := foldl_or (l := l) h1 fun a b hb => h a b (List.mem_cons_of_mem _ hb)
    refine ⟨h3, ?_⟩
    rw [List.foldl_cons, h4, h2, List.any_cons, Bool.or_assoc]
theorem getD_some {l : List Bool} {i : Nat} {b : Bool} (hi : i < l.length) (h : l.getD i false = b) : l[i]? = some b := by
  rw [List.getD_eq_getElem?_getD, List.getElem?_eq_getElem hi, Option.getD_some] at h
  rw [List.getElem?_eq_getElem hi, h]
theorem repl_getD {n i : Nat} : (List.replicate n false).getD i false = false := by
  rw [List.getD_eq_getElem?_getD, List.getElem?_replicate]; split <;> rfl

section
variable {r : Rl} {V : Nat}
def VarsOk (r : Rl) (V : Nat) : Prop := (∀ g ∈ r.guards.list, codeVars g.test.list V) ∧ ∀ s ∈ r.steps.list, ∀ x ∈ s.sets.list, (0 ≤ x.var ∧ x.var < V) ∧ codeVars x.value.list V
theorem reads_get (h : VarsOk r V) {i : Nat} (hi : i < V) (hV : V ≤ 6) : (readsL r V)[i]? = some (readsB r i) := by
  have hz : (List.replicate V false).length = V := List.length_replicate
  have g := foldl_or (f := addG) (p := fun g => namesB g.test.list i) (i := i) (l := r.guards.list) hz fun a b hb ha => ⟨(addC_len).trans ha, addC_get (by omega) (by rw [ha]; exact uses_lenV (h.1 b hb))⟩
  have s := foldl_or (f := addS) (p := fun s => s.sets.list.any fun x => namesB x.value.list i) (i := i) (l := r.steps.list) g.1 fun a b hb ha =>
    foldl_or (f := addX) (p := fun x => namesB x.value.list i) (i := i) (l := b.sets.list) ha fun a x hx ha => ⟨(addC_len).trans ha, addC_get (by omega) (by rw [ha]; exact uses_lenV (h.2 b hb x hx).2)⟩
  refine getD_some (by rw [show (readsL r V).length = V from s.1]; exact hi) ?_
  show (r.steps.list.foldl addS (r.guards.list.foldl addG (List.replicate V false))).getD i false = _
  rw [s.2, g.2, repl_getD, Bool.false_or]; rfl
theorem reads_len (h : VarsOk r V) : (readsL r V).length = V := by
  unfold readsL
  rw [foldl_inv (q := List.length) (f := addS) (fun _ _ => addS_len), foldl_inv (q := List.length) (f := addG) (fun _ _ => addC_len), List.length_replicate]
theorem writes_len : (writesL r V).length = V := by
  unfold writesL
  rw [foldl_inv (q := List.length) (f := putS') (fun _ _ => putS_len), List.length_replicate]
theorem writes_get (h : VarsOk r V) {i : Nat} (hi : i < V) : (writesL r V)[i]? = some (writesB r i) := by
  have s := foldl_or (f := putS') (p := fun s => s.sets.list.any fun x => decide (x.var = (i : Int))) (i := i) (l := r.steps.list) (z := List.replicate V false) (n := V) List.length_replicate fun a b hb ha =>
    foldl_or (f := putX) (p := fun x => decide (x.var = (i : Int))) (i := i) (l := b.sets.list) ha fun a x hx ha => by
      have hv := (h.2 b hb x hx).1
      refine ⟨(List.length_set).trans ha, ?_⟩
      show (a.set x.var.toNat true).getD i false = _
      rw [getD_set (by omega)]
      have : (x.var.toNat = i) = (x.var = (i : Int)) := by apply propext; omega
      simp only [this]
  refine getD_some (by rw [show (writesL r V).length = V from s.1]; exact hi) ?_
  show (r.steps.list.foldl putS' (List.replicate V false)).getD i false = _
  rw [s.2, repl_getD, Bool.false_or]; rfl
end

theorem ckBad_ne {l : List Ins} {a b : Int} (i : Nat) (e : Int) (h : ckBad l a b i = some e) : e ≠ 0 := by
  unfold ckBad at h
  split at h
  · split at h
    · cases h; decide
    · split at h
      · cases h; decide
      · split at h
        · cases h; decide
        · cases h
  · cases h
theorem eCheck_named {l : List Ins} {V : Nat} {args : Int} (h : (eCheck l V args).2 = 0) : codeVars l V := by
  have h1 : ∀ i, i < l.length → ckBad l V args i = none := by
    unfold eCheck at h
    split at h
    · cases h
    · split at h
      · cases h
      · refine first0_ok rfl ckBad_ne ?_
        cases hs : scan (ckBad l V args) l.length with
        | none => rfl
        | some p =>
          obtain ⟨i, e⟩ := p
          rw [hs] at h
          exact h
  intro x hx h2
  obtain ⟨i, hi, rfl⟩ := List.getElem_of_mem hx
  have := h1 i hi
  unfold ckBad at this
  rw [List.getElem?_eq_getElem hi] at this
  simp only at this
  split at this
  · cases this
  · split at this
    · cases this
    · rename_i hn
      have hn' : named l[i].op l[i].n V args = true := by simpa using hn
      rw [h2] at hn'
      simp [named] at hn'
      exact hn'
theorem gdBad_ne {l : List Gd} {a b : Int} (i : Nat) (e : Int) (h : gdBad l a b i = some e) : e ≠ 0 := by
  unfold gdBad at h
  split at h
  · split at h
    · cases h; decide
    · split at h
      · cases h
      · rename_i hne; cases h; exact hne
  · cases h
theorem stBad_ne {l : List St} {a b : Int} (i : Nat) (e : Int) (h : stBad l a b i = some e) : e ≠ 0 := by
  unfold stBad at h
  split at h
  · split at h
    · cases h; decide
    · split at h
      · cases h; decide
      · split at h
        · cases h
        · rename_i hne; cases h; exact hne
  · cases h
theorem right_vars {t : Tb} (h : right' t = true) {n : Nat} {r : Rl} (hr : t.rules.list[n]? = some r) : VarsOk r t.vars.list.length := by
  obtain ⟨p1, p2, p3, p4, p5, p6⟩ := right_parts h hr
  constructor
  · intro g hg
    obtain ⟨i, hi, rfl⟩ := List.getElem_of_mem hg
    have h1 : ∀ i, i < r.guards.list.length → gdBad r.guards.list t.vars.list.length r.args i = none := by
      unfold guards' at p5
      split at p5
      · cases p5
      · exact first0_ok rfl gdBad_ne p5
    have := h1 i hi
    unfold gdBad at this
    rw [List.getElem?_eq_getElem hi] at this
    simp only at this
    split at this
    · cases this
    · split at this
      · rename_i h3; exact eCheck_named h3
      · cases this
  · intro s hs x hx
    obtain ⟨i, hi, rfl⟩ := List.getElem_of_mem hs
    have h0 := right_steps h hr i hi
    unfold spBad at h0
    rw [List.getElem?_eq_getElem hi] at h0
    simp only at h0
    split at h0
    · cases h0
    · split at h0
      · rename_i h3
        obtain ⟨j, hj, rfl⟩ := List.getElem_of_mem hx
        have h4 := first0_ok rfl stBad_ne h3 j hj
        unfold stBad at h4
        rw [List.getElem?_eq_getElem hj] at h4
        simp only at h4
        split at h4
        · cases h4
        · split at h4
          · cases h4
          · split at h4
            · rename_i h5 h6 h7
              exact ⟨by omega, eCheck_named h7⟩
            · cases h4
      · cases h0
end Go.Vi.CYtdfhbmallnegfaa
