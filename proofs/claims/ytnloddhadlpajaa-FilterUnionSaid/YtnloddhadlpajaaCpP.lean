/-
  Lists in order, each once: by sorting, and by putting in one by one.
-/
namespace Go.Vi.CYtnloddhadlpajaa
set_option linter.unusedVariables false
section
variable {α : Type} {lt : α → α → Bool}
/-- a strict order that tells any two apart -/
structure StrictO (lt : α → α → Bool) : Prop where
  irr : ∀ a, lt a a = false
  trans : ∀ a b c, lt a b = true → lt b c = true → lt a c = true
  tot : ∀ a b, lt a b = false → lt b a = false → a = b
theorem StrictO.asym (o : StrictO lt) {a b : α} (h : lt a b = true) : lt b a = false := by
  cases h2 : lt b a with
  | false => rfl
  | true => have := o.trans a b a h h2; rw [o.irr] at this; cases this
/-- strictly rising -/
abbrev Up (lt : α → α → Bool) (l : List α) : Prop := l.Pairwise fun a b => lt a b = true
/-- never falling -/
abbrev Asc (lt : α → α → Bool) (l : List α) : Prop := l.Pairwise fun a b => lt b a = false
theorem Up.eq (o : StrictO lt) : ∀ {a b : List α}, Up lt a → Up lt b → (∀ x, x ∈ a ↔ x ∈ b) → a = b
  | [], [], _, _, _ => rfl
  | [], y :: b, _, _, h => by have := (h y).2 (by simp); cases this
  | x :: a, [], _, _, h => by have := (h x).1 (by simp); cases this
  | x :: a, y :: b, ha, hb, h => by
    have ha1 := List.pairwise_cons.1 ha
    have hb1 := List.pairwise_cons.1 hb
    have hxy : x = y := by
      rcases List.mem_cons.1 ((h x).1 (by simp)) with e | e
      · exact e
      rcases List.mem_cons.1 ((h y).2 (by simp)) with e2 | e2
      · exact e2.symm
      have h1 := hb1.1 x e
      have h2 := ha1.1 y e2
      rw [o.asym h1] at h2; cases h2
    subst hxy
    have ht : a = b := Up.eq o ha1.2 hb1.2 fun z => by
      constructor
      · intro hz
        rcases List.mem_cons.1 ((h z).1 (by simp [hz])) with e | e
        · subst e; have := ha1.1 z hz; rw [o.irr] at this; cases this
        · exact e
      · intro hz
        rcases List.mem_cons.1 ((h z).2 (by simp [hz])) with e | e
        · subst e; have := hb1.1 z hz; rw [o.irr] at this; cases this
        · exact e
    rw [ht]
/-- a sorted list is one alone -/
theorem Asc.eq (o : StrictO lt) {a b : List α} (ha : Asc lt a) (hb : Asc lt b) (h : a.Perm b) : a = b :=
  h.eq_of_pairwise (fun x y _ _ h1 h2 => o.tot x y h2 h1) ha hb
def insS (lt : α → α → Bool) (p : α) : List α → List α
  | [] => [p]
  | x :: r => if lt p x then p :: x :: r else x :: insS lt p r
theorem mem_insS {p z : α} : ∀ {l : List α}, z ∈ insS lt p l ↔ z = p ∨ z ∈ l
  | [] => by simp [insS]
  | x :: r => by
    rw [insS]
    split
    · simp
    · rw [List.mem_cons, mem_insS, List.mem_cons]
      constructor
      · rintro (h | h | h) <;> simp [h]
      · rintro (h | h | h) <;> simp [h]
theorem up_insS (o : StrictO lt) {p : α} : ∀ {l : List α}, Up lt l → p ∉ l → Up lt (insS lt p l)
  | [], _, _ => by simp [insS]
  | x :: r, h, hp => by
    have h1 := List.pairwise_cons.1 h
    rw [insS]
    split
    · rename_i hl
      refine List.pairwise_cons.2 ⟨fun z hz => ?_, h⟩
      rcases List.mem_cons.1 hz with e | e
      · subst e; exact hl
      · exact o.trans _ _ _ hl (h1.1 z e)
    · rename_i hl
      refine List.pairwise_cons.2 ⟨fun z hz => ?_, up_insS o h1.2 fun e => hp (List.mem_cons_of_mem _ e)⟩
      rcases mem_insS.1 hz with e | e
      · subst e
        cases hx : lt x z with
        | true => rfl
        | false => exact absurd (o.tot _ _ (by simpa using hl) hx) fun e => hp (e ▸ List.mem_cons_self)
      · exact h1.1 z e
/-- what is kept, put in order -/
def leastF [DecidableEq α] (lt : α → α → Bool) (keep : α → Bool) (l : List α) (out : List α) : List α :=
  l.foldl (fun out p => if decide (p ∈ out) || !keep p then out else insS lt p out) out
theorem leastF_is [DecidableEq α] (o : StrictO lt) (keep : α → Bool) : ∀ (l out : List α), Up lt out → Up lt (leastF lt keep l out) ∧ ∀ z, z ∈ leastF lt keep l out ↔ z ∈ out ∨ (z ∈ l ∧ keep z = true)
  | [], out, h => ⟨h, fun z => by simp [leastF]⟩
  | p :: l, out, h => by
    unfold leastF
    rw [List.foldl_cons]
    split
    · rename_i hk
      have := leastF_is o keep l out h
      refine ⟨this.1, fun z => (this.2 z).trans ?_⟩
      simp only [Bool.or_eq_true, decide_eq_true_eq, Bool.not_eq_true'] at hk
      constructor
      · rintro (h1 | h1)
        · exact .inl h1
        · exact .inr ⟨by simp [h1.1], h1.2⟩
      · rintro (h1 | ⟨h1, h2⟩)
        · exact .inl h1
        · rcases List.mem_cons.1 h1 with e | e
          · subst e
            rcases hk with hk | hk
            · exact .inl hk
            · rw [hk] at h2; cases h2
          · exact .inr ⟨e, h2⟩
    · rename_i hk
      simp only [Bool.or_eq_true, decide_eq_true_eq, Bool.not_eq_true', not_or, Bool.not_eq_false] at hk
      have := leastF_is o keep l (insS lt p out) (up_insS o h hk.1)
      refine ⟨this.1, fun z => (this.2 z).trans ?_⟩
      rw [mem_insS]
      constructor
      · rintro ((h1 | h1) | h1)
        · subst h1; exact .inr ⟨by simp, hk.2⟩
        · exact .inl h1
        · exact .inr ⟨by simp [h1.1], h1.2⟩
      · rintro (h1 | ⟨h1, h2⟩)
        · exact .inl (.inr h1)
        · rcases List.mem_cons.1 h1 with e | e
          · exact .inl (.inl e)
          · exact .inr ⟨e, h2⟩
/-- what is doubled beside itself falls out -/
def cmpt [DecidableEq α] : List α → List α
  | [] => []
  | [x] => [x]
  | x :: y :: r => if x = y then cmpt (y :: r) else x :: cmpt (y :: r)
theorem mem_cmpt [DecidableEq α] {z : α} : ∀ {l : List α}, z ∈ cmpt l ↔ z ∈ l
  | [] => Iff.rfl
  | [x] => Iff.rfl
  | x :: y :: r => by
    rw [cmpt]
    split
    · rename_i h; subst h; rw [mem_cmpt]; simp
    · rw [List.mem_cons, mem_cmpt, List.mem_cons, List.mem_cons, List.mem_cons]
theorem up_cmpt [DecidableEq α] (o : StrictO lt) : ∀ {l : List α}, Asc lt l → Up lt (cmpt l)
  | [], _ => by simp [cmpt]
  | [x], _ => by simp [cmpt]
  | x :: y :: r, h => by
    have h1 := List.pairwise_cons.1 h
    rw [cmpt]
    split
    · exact up_cmpt o h1.2
    · rename_i hne
      refine List.pairwise_cons.2 ⟨fun z hz => ?_, up_cmpt o h1.2⟩
      have hz' := mem_cmpt.1 hz
      have hxy : lt x y = true := by
        cases hx : lt x y with
        | true => rfl
        | false => exact absurd (o.tot _ _ hx (h1.1 y (by simp))) hne
      rcases List.mem_cons.1 hz' with e | e
      · subst e; exact hxy
      · have h2 := List.pairwise_cons.1 h1.2
        cases hz2 : lt y z with
        | true => exact o.trans _ _ _ hxy hz2
        | false => have := o.tot _ _ hz2 (h2.1 z e); subst this; exact hxy
/-- the program's way: sorted, each once, what is kept; and the reference's: put in one by one -/
theorem least_eq [DecidableEq α] (o : StrictO lt) {l s : List α} (hs : Asc lt s) (hp : s.Perm l) (keep : α → Bool) : (cmpt s).filter keep = leastF lt keep l [] := by
  have h := leastF_is o keep l [] List.Pairwise.nil
  refine Up.eq o ((up_cmpt o hs).filter _) h.1 fun z => ?_
  rw [h.2 z, List.mem_filter, mem_cmpt, hp.mem_iff]
  simp
end
end Go.Vi.CYtnloddhadlpajaa
