/- Loops that look for the first place where something is wrong; which rule has a name, and for which states a rule is, in the program and in the reference, without rounds. -/
import Derived.Test.YtdfhbmallnegfaaExprW
import Derived.Test.YtdfhbmallnegfaaPAx3
import Derived.Test.YtdfhbmallnegfaaPAx8
import Derived.Test.YtdfhbmallnegfaaPAx16
namespace Go.Proofs.Ytdfhbmallnegfaa.Rules
open Go.RowKit Go.Proofs.Ytdfhbmallnegfaa.PA Go.Proofs.YtdfhbmallnegfaaW.PrintWords Go.Proofs.YtdfhbmallnegfaaW.PrintLast Go.Proofs.YtdfhbmallnegfaaW.PrintMore Go.Proofs.Ytdfhbmallnegfaa.Expr
set_option linter.unusedVariables false
set_option linter.unusedSimpArgs false

/-! ### loops that look for the first place where something is wrong -/
/-- The first of m places from i on where something is wrong. -/
def scan {β : Type} (bad : Nat → Option β) : Nat → Nat → Option β
  | 0, _ => none
  | m + 1, i => match bad i with
    | some b => some b
    | none => scan bad m (i + 1)
/-- A loop (k rounds, place i) that at each place either ends with what is wrong there, or goes on. -/
structure Loop {α : Type} (F : Nat → Int → Option α) (bad : Nat → Option α) (n : Nat) : Prop where
  at_ : ∀ i, i < n → ∀ r, bad i = some r → Ev (fun k => F k (i : Int)) r
  on : ∀ i, i < n → bad i = none → ∀ r, Ev (fun k => F k ((i : Int) + 1)) r → Ev (fun k => F k (i : Int)) r
theorem Loop.found {α : Type} {F : Nat → Int → Option α} {bad : Nat → Option α} {n : Nat} (L : Loop F bad n) {b : α} : ∀ {m i : Nat}, i + m = n → scan bad m i = some b → Ev (fun k => F k (i : Int)) b
  | 0, _, _, h => by cases h
  | m + 1, i, h, hs => by
    unfold scan at hs
    cases hb : bad i with
    | some r => rw [hb] at hs; cases hs; exact L.at_ i (by omega) _ hb
    | none =>
      rw [hb] at hs
      have := L.found (m := m) (i := i + 1) (by omega) hs
      rw [show ((i + 1 : Nat) : Int) = (i : Int) + 1 by omega] at this
      exact L.on i (by omega) hb _ this
theorem Loop.past {α : Type} {F : Nat → Int → Option α} {bad : Nat → Option α} {n : Nat} (L : Loop F bad n) {r : α} (hr : Ev (fun k => F k (n : Int)) r) : ∀ {m i : Nat}, i + m = n → scan bad m i = none → Ev (fun k => F k (i : Int)) r
  | 0, i, h, _ => by
    have : i = n := by omega
    subst this
    exact hr
  | m + 1, i, h, hs => by
    unfold scan at hs
    cases hb : bad i with
    | some r => rw [hb] at hs; cases hs
    | none =>
      rw [hb] at hs
      have := L.past hr (m := m) (i := i + 1) (by omega) hs
      rw [show ((i + 1 : Nat) : Int) = (i : Int) + 1 by omega] at this
      exact L.on i (by omega) hb _ this
theorem Loop.ev {α : Type} {F : Nat → Int → Option α} {bad : Nat → Option α} {n : Nat} (L : Loop F bad n) {fin : α} (hr : Ev (fun k => F k (n : Int)) fin) : Ev (fun k => F k 0) ((scan bad n 0).getD fin) := by
  cases hs : scan bad n 0 with
  | some b => exact L.found (m := n) (i := 0) (by omega) hs
  | none => exact L.past hr (m := n) (i := 0) (by omega) hs
theorem Loop.of {α : Type} {F : Nat → Int → Option α} {bad : Nat → Option α} {n : Nat} (h : ∀ i, i < n → ∀ k, F (k + 1) (i : Int) = (match bad i with | some r => some r | none => F k ((i : Int) + 1))) : Loop F bad n where
  at_ i hi r hr := Ev.step (f := fun _ => some r) (fun k => by rw [h i hi k, hr]) (Ev.now _)
  on i hi hb r hr := Ev.step (fun k => by rw [h i hi k, hb]) hr
theorem Loop.by_ {α : Type} {F : Nat → Int → Option α} {bad : Nat → Option α} {n : Nat} (G : Nat → Nat → Option α) (h : ∀ i, i < n → ∀ k, F (k + 1) (i : Int) = G i k)
    (at_ : ∀ i, i < n → ∀ r, bad i = some r → Ev (G i) r) (on : ∀ i, i < n → bad i = none → ∀ r, Ev (fun k => F k ((i : Int) + 1)) r → Ev (G i) r) : Loop F bad n where
  at_ i hi r hr := Ev.step (h i hi) (at_ i hi r hr)
  on i hi hb r hr := Ev.step (h i hi) (on i hi hb r hr)
theorem scan_map {β γ : Type} (g : β → γ) (bad : Nat → Option β) : ∀ m i, scan (fun j => (bad j).map g) m i = (scan bad m i).map g
  | 0, _ => rfl
  | m + 1, i => by
    unfold scan
    cases hb : bad i with
    | some r => rfl
    | none => exact scan_map g bad m (i + 1)
theorem scan_some {β : Type} {bad : Nat → Option β} {b : β} : ∀ {m i : Nat}, scan bad m i = some b → ∃ j, i ≤ j ∧ j < i + m ∧ bad j = some b
  | 0, _, h => by cases h
  | m + 1, i, h => by
    unfold scan at h
    cases hb : bad i with
    | some r => rw [hb] at h; cases h; exact ⟨i, Nat.le_refl _, by omega, hb⟩
    | none =>
      rw [hb] at h
      obtain ⟨j, h1, h2, h3⟩ := scan_some (m := m) (i := i + 1) h
      exact ⟨j, by omega, by omega, h3⟩
theorem scan_none {β : Type} {bad : Nat → Option β} : ∀ {m i : Nat}, scan bad m i = none ↔ ∀ j, i ≤ j → j < i + m → bad j = none
  | 0, i => ⟨fun _ j h1 h2 => by omega, fun _ => rfl⟩
  | m + 1, i => by
    unfold scan
    cases hb : bad i with
    | some r => exact ⟨fun h => (by cases h), fun h => (by rw [h i (Nat.le_refl _) (by omega)] at hb; cases hb)⟩
    | none =>
      refine ⟨fun h j h1 h2 => ?_, fun h => scan_none.2 fun j h1 h2 => h j (by omega) (by omega)⟩
      by_cases e : j = i
      · rw [e]; exact hb
      · exact scan_none.1 h j (by omega) (by omega)
theorem w1 {n : Nat} {i : Nat} (hn : (n : Int) < 9223372036854775807) (hi : i < n) : wrap64 ((i : Int) + 1) = (i : Int) + 1 := w64 (by omega) (by omega)
theorem take_getD {α : Type} (l : List α) (d : α) {n k : Nat} (h : k < n) : (l.take n).getD k d = l.getD k d := by
  simp [List.getD_eq_getElem?_getD, List.getElem?_take, h]

theorem rdOf_take {α : Type} (d : α) (l : List α) {n k : Nat} (h : k < n) : rdOf d (l.take n) (k : Int) = rdOf d l (k : Int) := by
  simp only [rdOf, Int.toNat_natCast]; exact take_getD l d h
/-! ### the first rule of a name -/
def findBad (ru : List S38) (s : ByteArray) (k : Nat) : Option Int := if (rd_T38 ru (k : Int)).f0.toList = s.toList then some (k : Int) else none
def findS (ru : List S38) (s : ByteArray) : Int := (scan (findBad ru s) ru.length 0).getD (-1)
theorem find_ev (st va : List ByteArray) (start : List Int) (ru : List S38) (s : ByteArray) (hl : (ru.length : Int) < 9223372036854775807) : Ev (fun k => rules_Find.f k st va start ru s) (findS ru s) := by
  simp only [rules_Find.f, findS]
  refine Loop.ev (F := fun k j => rules_Find.l0 k s ru (ru.length : Int) j) (Loop.of fun i hi k => ?_) (Ev.step (f := fun _ => some (-1)) (fun k => ?_) (Ev.now _))
  · simp only [rules_Find.l0, findBad]
    rw [if_pos (by omega), if_pos (by omega), if_pos (by omega), w1 hl hi]
    by_cases c : (rd_T38 ru (i : Int)).f0.toList = s.toList
    · simp only [if_pos c]
    · simp only [if_neg c]
  · simp only [rules_Find.l0]; rw [if_neg (by omega)]
/-- The lists that have no bound of their own are no longer than a machine can tell. -/
def fits (r : S38) : Prop := (r.f2.length : Int) < 9223372036854775807 ∧ ∀ j : Nat, j < r.f4.length → ((rd_T60 r.f4 (j : Int)).f0.length : Int) < 9223372036854775807
/-- The table's rules are no longer than a machine can tell. -/
def fitsAll (ru : List S38) : Prop := ∀ n : Nat, n < ru.length → fits (rd_T38 ru (n : Int))
theorem fitsAll_of {ru : List S38} (h : ∀ y ∈ ru, (y.f2.length : Int) < 9223372036854775807 ∧ ∀ s ∈ y.f4, (s.f0.length : Int) < 9223372036854775807) : fitsAll ru := by
  intro n hn
  have e : rd_T38 ru (n : Int) = ru[n] := by simp [rd_T38, List.getD_eq_getElem?_getD, List.getElem?_eq_getElem hn]
  have hm := h _ (e ▸ List.getElem_mem hn : rd_T38 ru (n : Int) ∈ ru)
  refine ⟨hm.1, fun j hj => ?_⟩
  have e2 : rd_T60 (rd_T38 ru (n : Int)).f4 (j : Int) = (rd_T38 ru (n : Int)).f4[j] := by simp [rd_T60, List.getD_eq_getElem?_getD, List.getElem?_eq_getElem hj]
  rw [e2]
  exact hm.2 _ (List.getElem_mem hj)

theorem scan_snoc {β : Type} (bad : Nat → Option β) : ∀ m i, scan bad (m + 1) i = (match scan bad m i with | some b => some b | none => bad (i + m))
  | 0, i => by
    show (match bad i with | some b => some b | none => none) = bad (i + 0)
    rw [Nat.add_zero]
    cases bad i <;> rfl
  | m + 1, i => by
    conv => lhs; unfold scan
    conv => rhs; unfold scan
    cases hb : bad i with
    | some b => rfl
    | none =>
      have := scan_snoc bad m (i + 1)
      simp only [this, show i + 1 + m = i + (m + 1) by omega]
def forBad (l : List Int) (s : Int) (i : Nat) : Option Bool := if rd l (i : Int) = s then some true else none
def hasS (l : List Int) (s : Int) : Bool := (scan (forBad l s) l.length 0).getD ((l.length : Int) == 0)
/-- Is rule n for state s? -/
def forS (st : List ByteArray) (ru : List S38) (n s : Int) : Bool :=
  if n < 0 ∨ n ≥ (ru.length : Int) ∨ s < 0 ∨ s ≥ (st.length : Int) then false else hasS (rd_T38 ru n).f2 s
/-- The lists of states that rules are for are no longer than a machine can tell. -/
def froms (ru : List S38) : Prop := ∀ n : Int, 0 ≤ n → n < (ru.length : Int) → ((rd_T38 ru n).f2.length : Int) < 9223372036854775807
theorem froms_of {ru : List S38} (h : fitsAll ru) : froms ru := by
  intro n h0 h1
  have := (h n.toNat (by omega)).1
  rwa [Int.toNat_of_nonneg h0] at this
theorem for_ev (st va : List ByteArray) (start : List Int) (ru : List S38) (hf : froms ru) (n s : Int) : Ev (fun k => rules_For.f k st va start ru n s) (forS st ru n s) := by
  have key : ∀ b : Bool, (b = false → ¬ (n < 0 ∨ n ≥ (ru.length : Int) ∨ s < 0 ∨ s ≥ (st.length : Int))) → (b = true → n < 0 ∨ n ≥ (ru.length : Int) ∨ s < 0 ∨ s ≥ (st.length : Int)) → Ev (fun k => rules_For.j0 k n s b st va start ru) (forS st ru n s) := by
    intro b hb0 hb1
    cases b with
    | true =>
      unfold forS
      rw [if_pos (hb1 rfl)]
      exact Ev.step (f := fun _ => some false) (fun k => by simp only [rules_For.j0, if_true]) (Ev.now _)
    | false =>
      have c := hb0 rfl
      unfold forS hasS
      rw [if_neg c]
      have hl := hf n (by omega) (by omega)
      refine Ev.step (f := fun k => rules_For.l0 k s (rd_T38 ru n).f2 (rd_T38 ru n).f2 ((rd_T38 ru n).f2.length : Int) 0) (fun k => ?_) ?_
      · simp only [rules_For.j0, Bool.false_eq_true, if_false]; rw [if_pos (by omega), if_pos (by omega)]
      generalize (rd_T38 ru n).f2 = l at hl ⊢
      refine Loop.ev (F := fun k j => rules_For.l0 k s l l (l.length : Int) j) (Loop.of fun i hi k => ?_) (Ev.step (f := fun _ => some ((l.length : Int) == 0)) (fun k => ?_) (Ev.now _))
      · simp only [rules_For.l0, forBad]
        rw [if_pos (by omega), if_pos (by omega), if_pos (by omega), w1 hl hi]
        by_cases c : rd l (i : Int) = s
        · simp only [if_pos c]
        · simp only [if_neg c]
      · simp only [rules_For.l0]; rw [if_neg (by omega)]
  simp only [rules_For.f]
  by_cases c1 : n < 0
  · simp only [if_pos c1]; exact key true (by simp) (fun _ => .inl c1)
  · simp only [if_neg c1]
    by_cases c2 : n ≥ (ru.length : Int)
    · simp only [if_pos c2]; exact key true (by simp) (fun _ => .inr (.inl c2))
    · simp only [if_neg c2]
      by_cases c3 : s < 0
      · simp only [if_pos c3]; exact key true (by simp) (fun _ => .inr (.inr (.inl c3)))
      · simp only [if_neg c3]
        refine key _ (fun h => ?_) (fun h => ?_)
        · have := of_decide_eq_false h; omega
        · exact .inr (.inr (.inr (of_decide_eq_true h)))
theorem for_ref_ev (st va : List ByteArray) (start : List Int) (ru : List S38) (hf : froms ru) (n s : Int) : Ev (fun k => surmiseref05_For.f k st va start ru n s) (forS st ru n s) := by
  have key : ∀ b : Bool, (b = false → ¬ (n < 0 ∨ n ≥ (ru.length : Int) ∨ s < 0 ∨ s ≥ (st.length : Int))) → (b = true → n < 0 ∨ n ≥ (ru.length : Int) ∨ s < 0 ∨ s ≥ (st.length : Int)) → Ev (fun k => surmiseref05_For.j0 k n s b st va start ru) (forS st ru n s) := by
    intro b hb0 hb1
    cases b with
    | true =>
      unfold forS
      rw [if_pos (hb1 rfl)]
      exact Ev.step (f := fun _ => some false) (fun k => by simp only [surmiseref05_For.j0, if_true]) (Ev.now _)
    | false =>
      have c := hb0 rfl
      unfold forS hasS
      rw [if_neg c]
      have hl := hf n (by omega) (by omega)
      have yes : Loop (fun k j => surmiseref05_For.l0 k n s true j st va start ru) (fun _ => none) (rd_T38 ru n).f2.length := by
        refine Loop.of fun i hi k => ?_
        simp only [surmiseref05_For.l0, if_true]
        rw [if_pos (by omega), if_pos (by omega), if_pos (by omega), w1 hl hi]
      have yes' : ∀ i, i ≤ (rd_T38 ru n).f2.length → Ev (fun k => surmiseref05_For.l0 k n s true (i : Int) st va start ru) true := fun i hi => by
        refine yes.past (m := (rd_T38 ru n).f2.length - i) (i := i) (Ev.step (f := fun _ => some true) (fun k => ?_) (Ev.now _)) (by omega) (scan_none.2 fun _ _ _ => rfl)
        simp only [surmiseref05_For.l0]; rw [if_pos (by omega), if_pos (by omega), if_neg (by omega)]
      have no : Loop (fun k j => surmiseref05_For.l0 k n s false j st va start ru) (forBad (rd_T38 ru n).f2 s) (rd_T38 ru n).f2.length := by
        refine Loop.by_ (fun i k => surmiseref05_For.l0 k n s (rd (rd_T38 ru n).f2 (i : Int) == s) ((i : Int) + 1) st va start ru) (fun i hi k => ?_) (fun i hi r hr => ?_) (fun i hi hb r hr => ?_)
        · simp only [surmiseref05_For.l0, Bool.false_eq_true, if_false]
          rw [if_pos (by omega), if_pos (by omega), if_pos (by omega), if_pos (by omega), w1 hl hi]
        · rw [forBad] at hr
          by_cases c : rd (rd_T38 ru n).f2 (i : Int) = s
          · rw [if_pos c] at hr; cases hr
            rw [beq_iff_eq.2 c]
            exact yes' (i + 1) (by omega)
          · rw [if_neg c] at hr; cases hr
        · rw [forBad] at hb
          by_cases c : rd (rd_T38 ru n).f2 (i : Int) = s
          · rw [if_pos c] at hb; cases hb
          · rw [beq_eq_false_iff_ne.2 c]; exact hr
      refine Ev.step (f := fun k => surmiseref05_For.l0 k n s (((rd_T38 ru n).f2.length : Int) == 0) 0 st va start ru) (fun k => ?_) ?_
      · simp only [surmiseref05_For.j0, Bool.false_eq_true, if_false]; rw [if_pos (by omega), if_pos (by omega)]
      by_cases e : ((rd_T38 ru n).f2.length : Int) = 0
      · have e' : (rd_T38 ru n).f2.length = 0 := by omega
        rw [beq_iff_eq.2 e, e']
        exact yes' 0 (by omega)
      · rw [beq_eq_false_iff_ne.2 e]
        refine no.ev (Ev.step (f := fun _ => some false) (fun k => ?_) (Ev.now _))
        simp only [surmiseref05_For.l0]; rw [if_pos (by omega), if_pos (by omega), if_neg (by omega)]
  simp only [surmiseref05_For.f]
  by_cases c1 : n < 0
  · simp only [if_pos c1]; exact key true (by simp) (fun _ => .inl c1)
  · simp only [if_neg c1]
    by_cases c2 : n ≥ (ru.length : Int)
    · simp only [if_pos c2]; exact key true (by simp) (fun _ => .inr (.inl c2))
    · simp only [if_neg c2]
      by_cases c3 : s < 0
      · simp only [if_pos c3]; exact key true (by simp) (fun _ => .inr (.inr (.inl c3)))
      · simp only [if_neg c3]
        refine key _ (fun h => ?_) (fun h => ?_)
        · have := of_decide_eq_false h; omega
        · exact .inr (.inr (.inr (of_decide_eq_true h)))
end Go.Proofs.Ytdfhbmallnegfaa.Rules
