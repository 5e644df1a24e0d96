/- Plain laws on tables: what the program's Check and the reference's come to, without rounds: one and the same. -/
import Derived.Test.YtdfhbmallnegfaaExprK
import Derived.Test.YtdfhbmallnegfaaPAx8
import Derived.Test.YtdfhbmallnegfaaPAx14
namespace Go.Proofs.Ytdfhbmallnegfaa.Rules
open Go.RowKit Go.Proofs.Ytdfhbmallnegfaa.PA Go.Proofs.YtdfhbmallnegfaaW.PrintWords Go.Proofs.YtdfhbmallnegfaaW.PrintLast Go.Proofs.YtdfhbmallnegfaaW.PrintMore Go.Proofs.Ytdfhbmallnegfaa.Expr
set_option linter.unusedVariables false
set_option linter.unusedSimpArgs false

/-! ### loops that look for the first place where something is wrong -/
/-- The first of m places from i on where something is wrong. -/
def scan {β : Type} (bad : Nat → Option β) : Nat → Nat → Option β
  | 0, _ => none
  | m + 1, i => match bad i with
    | some b => some b
    | none => scan bad m (i + 1)
/-- A loop (k rounds, place i) that at each place either ends with what is wrong there, or goes on. -/
structure Loop {α : Type} (F : Nat → Int → Option α) (bad : Nat → Option α) (n : Nat) : Prop where
  at_ : ∀ i, i < n → ∀ r, bad i = some r → Ev (fun k => F k (i : Int)) r
  on : ∀ i, i < n → bad i = none → ∀ r, Ev (fun k => F k ((i : Int) + 1)) r → Ev (fun k => F k (i : Int)) r
theorem Loop.found {α : Type} {F : Nat → Int → Option α} {bad : Nat → Option α} {n : Nat} (L : Loop F bad n) {b : α} : ∀ {m i : Nat}, i + m = n → scan bad m i = some b → Ev (fun k => F k (i : Int)) b
  | 0, _, _, h => by cases h
  | m + 1, i, h, hs => by
    unfold scan at hs
    cases hb : bad i with
    | some r => rw [hb] at hs; cases hs; exact L.at_ i (by omega) _ hb
    | none =>
      rw [hb] at hs
      have := L.found (m := m) (i := i + 1) (by omega) hs
      rw [show ((i + 1 : Nat) : Int) = (i : Int) + 1 by omega] at this
      exact L.on i (by omega) hb _ this
theorem Loop.past {α : Type} {F : Nat → Int → Option α} {bad : Nat → Option α} {n : Nat} (L : Loop F bad n) {r : α} (hr : Ev (fun k => F k (n : Int)) r) : ∀ {m i : Nat}, i + m = n → scan bad m i = none → Ev (fun k => F k (i : Int)) r
  | 0, i, h, _ => by
    have : i = n := by omega
    subst this
    exact hr
  | m + 1, i, h, hs => by
    unfold scan at hs
    cases hb : bad i with
    | some r => rw [hb] at hs; cases hs
    | none =>
      rw [hb] at hs
      have := L.past hr (m := m) (i := i + 1) (by omega) hs
      rw [show ((i + 1 : Nat) : Int) = (i : Int) + 1 by omega] at this
      exact L.on i (by omega) hb _ this
theorem Loop.ev {α : Type} {F : Nat → Int → Option α} {bad : Nat → Option α} {n : Nat} (L : Loop F bad n) {fin : α} (hr : Ev (fun k => F k (n : Int)) fin) : Ev (fun k => F k 0) ((scan bad n 0).getD fin) := by
  cases hs : scan bad n 0 with
  | some b => exact L.found (m := n) (i := 0) (by omega) hs
  | none => exact L.past hr (m := n) (i := 0) (by omega) hs
theorem Loop.of {α : Type} {F : Nat → Int → Option α} {bad : Nat → Option α} {n : Nat} (h : ∀ i, i < n → ∀ k, F (k + 1) (i : Int) = (match bad i with | some r => some r | none => F k ((i : Int) + 1))) : Loop F bad n where
  at_ i hi r hr := Ev.step (f := fun _ => some r) (fun k => by rw [h i hi k, hr]) (Ev.now _)
  on i hi hb r hr := Ev.step (fun k => by rw [h i hi k, hb]) hr
theorem Loop.by_ {α : Type} {F : Nat → Int → Option α} {bad : Nat → Option α} {n : Nat} (G : Nat → Nat → Option α) (h : ∀ i, i < n → ∀ k, F (k + 1) (i : Int) = G i k)
    (at_ : ∀ i, i < n → ∀ r, bad i = some r → Ev (G i) r) (on : ∀ i, i < n → bad i = none → ∀ r, Ev (fun k => F k ((i : Int) + 1)) r → Ev (G i) r) : Loop F bad n where
  at_ i hi r hr := Ev.step (h i hi) (at_ i hi r hr)
  on i hi hb r hr := Ev.step (h i hi) (on i hi hb r hr)
theorem scan_map {β γ : Type} (g : β → γ) (bad : Nat → Option β) : ∀ m i, scan (fun j => (bad j).map g) m i = (scan bad m i).map g
  | 0, _ => rfl
  | m + 1, i => by
    unfold scan
    cases hb : bad i with
    | some r => rfl
    | none => exact scan_map g bad m (i + 1)
theorem scan_some {β : Type} {bad : Nat → Option β} {b : β} : ∀ {m i : Nat}, scan bad m i = some b → ∃ j, i ≤ j ∧ j < i + m ∧ bad j = some b
  | 0, _, h => by cases h
  | m + 1, i, h => by
    unfold scan at h
    cases hb : bad i with
    | some r => rw [hb] at h; cases h; exact ⟨i, Nat.le_refl _, by omega, hb⟩
    | none =>
      rw [hb] at h
      obtain ⟨j, h1, h2, h3⟩ := scan_some (m := m) (i := i + 1) h
      exact ⟨j, by omega, by omega, h3⟩
theorem scan_none {β : Type} {bad : Nat → Option β} : ∀ {m i : Nat}, scan bad m i = none ↔ ∀ j, i ≤ j → j < i + m → bad j = none
  | 0, i => ⟨fun _ j h1 h2 => by omega, fun _ => rfl⟩
  | m + 1, i => by
    unfold scan
    cases hb : bad i with
    | some r => exact ⟨fun h => (by cases h), fun h => (by rw [h i (Nat.le_refl _) (by omega)] at hb; cases hb)⟩
    | none =>
      refine ⟨fun h j h1 h2 => ?_, fun h => scan_none.2 fun j h1 h2 => h j (by omega) (by omega)⟩
      by_cases e : j = i
      · rw [e]; exact hb
      · exact scan_none.1 h j (by omega) (by omega)
theorem w1 {n : Nat} {i : Nat} (hn : (n : Int) < 9223372036854775807) (hi : i < n) : wrap64 ((i : Int) + 1) = (i : Int) + 1 := w64 (by omega) (by omega)
theorem take_getD {α : Type} (l : List α) (d : α) {n k : Nat} (h : k < n) : (l.take n).getD k d = l.getD k d := by
  simp [List.getD_eq_getElem?_getD, List.getElem?_take, h]

/-! ### names -/
def letS (b : Int) : Bool := decide (97 ≤ b ∧ b ≤ 122)
def digS (b : Int) : Bool := decide (48 ≤ b ∧ b ≤ 57)
theorem letter_f (b : Int) : infix_letter.f b = some (letS b) := by
  simp only [infix_letter.f, letS]
  by_cases h : b ≥ 97
  · rw [if_pos h]; simp [h]
  · rw [if_neg h]; simp [h]
theorem letter_ref (b : Int) : surmiseref04_letter.f b = some (letS b) := by
  simp only [surmiseref04_letter.f, letS]
  by_cases h : b ≥ 97
  · rw [if_pos h]; simp [h]
  · rw [if_neg h]; simp [h]
theorem digit_f (b : Int) : infix_digit.f b = some (digS b) := by
  simp only [infix_digit.f, digS]
  by_cases h : b ≥ 48
  · rw [if_pos h]; simp [h]
  · rw [if_neg h]; simp [h]
theorem digit_ref (b : Int) : surmiseref04_digit.f b = some (digS b) := by
  simp only [surmiseref04_digit.f, digS]
  by_cases h : b ≥ 48
  · rw [if_pos h]; simp [h]
  · rw [if_neg h]; simp [h]
def chrBad (s : ByteArray) (i : Nat) : Option Bool := if letS (bt s i) = true ∨ digS (bt s i) = true ∨ bt s i = 95 then none else some false
def wordS (s : ByteArray) : Bool := decide (s.toList = ([109, 105, 110] : List UInt8)) || (decide (s.toList = ([109, 97, 120] : List UInt8)) || decide (s.toList = ([105, 102] : List UInt8)))
def nameS (s : ByteArray) : Bool := if s.size < 1 ∨ s.size > 24 ∨ wordS s = true ∨ letS (bt s 0) = false then false else (scan (chrBad s) s.size 0).getD true
theorem name_l0 (s : ByteArray) (hs : s.size ≤ 24) : Ev (fun k => infix_Name.l0 k s (s.size : Int) 0) ((scan (chrBad s) s.size 0).getD true) := by
  refine Loop.ev (F := fun k i => infix_Name.l0 k s (s.size : Int) i) (Loop.of fun i hi k => ?_) (Ev.step (f := fun _ => some true) (fun k => ?_) (Ev.now _))
  · simp only [infix_Name.l0, letter_f, digit_f, Option.bind_some, chrBad]
    rw [if_pos (by omega), if_pos (by omega), if_pos (by omega), w64 (by omega) (by omega)]
    by_cases h1 : letS (bt s i) = true
    · rw [if_pos h1, if_pos (.inl h1)]
    · by_cases h2 : digS (bt s i) = true
      · rw [if_neg h1, if_pos h2, if_pos (.inr (.inl h2))]
      · by_cases h3 : bt s i = 95
        · rw [if_neg h1, if_neg h2, if_pos h3, if_pos (.inr (.inr h3))]
        · rw [if_neg h1, if_neg h2, if_neg h3, if_neg (fun h => h.elim h1 fun h => h.elim h2 h3)]
  · simp only [infix_Name.l0]; rw [if_neg (by omega)]
theorem name_ev (s : ByteArray) : Ev (fun k => infix_Name.f k s) (nameS s) := by
  have yes : Ev (fun k => infix_Name.j0 k s true) false := Ev.step (f := fun _ => some false) (fun k => by simp only [infix_Name.j0, if_true]) (Ev.now _)
  simp only [infix_Name.f, nameS]
  by_cases h1 : s.size < 1
  · rw [if_pos (.inl h1)]
    refine Ev.congr (fun k => ?_) yes
    rw [if_pos (by omega)]
  · by_cases h2 : s.size > 24
    · rw [if_pos (.inr (.inl h2))]
      refine Ev.congr (fun k => ?_) yes
      rw [if_neg (by omega), if_pos (by omega)]
    · by_cases h3 : letS (bt s 0) = true
      · by_cases h4 : wordS s = true
        · rw [if_pos (.inr (.inr (.inl h4)))]
          refine Ev.congr (fun k => ?_) yes
          rw [if_neg (by omega), if_neg (by omega), if_pos (by omega)]
          simp only [letter_f, Option.bind_some, if_pos h3, infix_reserved.f]
          by_cases a1 : s.toList = ([109, 105, 110] : List UInt8)
          · simp [a1]
          · by_cases a2 : s.toList = ([109, 97, 120] : List UInt8)
            · simp [a2]
            · by_cases a3 : s.toList = ([105, 102] : List UInt8)
              · simp [a3]
              · simp [wordS, a1, a2, a3] at h4
        · rw [if_neg (by rw [h3]; rintro (h | h | h | h); exact h1 h; exact h2 h; exact h4 h; cases h)]
          have := name_l0 s (by omega)
          refine Ev.congr (fun k => ?_) (Ev.step (g := fun k => infix_Name.j0 k s false) (fun k => ?_) this)
          · rw [if_neg (by omega), if_neg (by omega), if_pos (by omega)]
            have e : infix_reserved.f s = some 0 := by
              simp only [infix_reserved.f]
              rw [if_neg (fun h => h4 (by simp [wordS, h])), if_neg (fun h => h4 (by simp [wordS, h])), if_neg (fun h => h4 (by simp [wordS, h]))]
            simp only [letter_f, Option.bind_some, if_pos h3, e]
            rfl
          · simp only [infix_Name.j0, Bool.false_eq_true, if_false]
      · rw [if_pos (.inr (.inr (.inr (by simpa using h3))))]
        refine Ev.congr (fun k => ?_) yes
        rw [if_neg (by omega), if_neg (by omega), if_pos (by omega)]
        simp only [letter_f, Option.bind_some, if_neg h3]
theorem name_ref_l0 (s : ByteArray) (hs : s.size ≤ 24) : Ev (fun k => surmiseref04_Name.l0 k s 0) ((scan (chrBad s) s.size 0).getD true) := by
  refine Loop.ev (F := fun k i => surmiseref04_Name.l0 k s i) (Loop.of fun i hi k => ?_) (Ev.step (f := fun _ => some true) (fun k => ?_) (Ev.now _))
  · simp only [surmiseref04_Name.l0, letter_ref, digit_ref, Option.bind_some, chrBad]
    rw [if_pos (by omega), if_pos (by omega), w64 (by omega) (by omega)]
    by_cases h1 : letS (bt s i) = true
    · rw [if_pos h1, if_pos (.inl h1)]
    · by_cases h2 : digS (bt s i) = true
      · rw [if_neg h1, if_pos h2, if_pos (.inr (.inl h2))]
      · by_cases h3 : bt s i = 95
        · rw [if_neg h1, if_neg h2, if_pos h3, if_pos (.inr (.inr h3))]
        · rw [if_neg h1, if_neg h2, if_neg h3, if_neg (fun h => h.elim h1 fun h => h.elim h2 h3)]
  · simp only [surmiseref04_Name.l0]; rw [if_neg (by omega)]
theorem name_ref_ev (s : ByteArray) : Ev (fun k => surmiseref04_Name.f k s) (nameS s) := by
  have yes : Ev (fun k => surmiseref04_Name.j0 k s true) false := Ev.step (f := fun _ => some false) (fun k => by simp only [surmiseref04_Name.j0, if_true]) (Ev.now _)
  simp only [surmiseref04_Name.f, nameS]
  by_cases h1 : s.size < 1
  · rw [if_pos (.inl h1)]
    refine Ev.congr (fun k => ?_) yes
    rw [if_pos (by omega)]
  · by_cases h2 : s.size > 24
    · rw [if_pos (.inr (.inl h2))]
      refine Ev.congr (fun k => ?_) yes
      rw [if_neg (by omega), if_pos (by omega)]
    · by_cases h4 : wordS s = true
      · rw [if_pos (.inr (.inr (.inl h4)))]
        refine Ev.congr (fun k => ?_) yes
        rw [if_neg (by omega), if_neg (by omega)]
        by_cases a1 : s.toList = ([109, 105, 110] : List UInt8)
        · rw [if_pos a1]
        · rw [if_neg a1]
          by_cases a2 : s.toList = ([109, 97, 120] : List UInt8)
          · rw [if_pos a2]
          · rw [if_neg a2]
            by_cases a3 : s.toList = ([105, 102] : List UInt8)
            · rw [if_pos a3]
            · simp [wordS, a1, a2, a3] at h4
      · have pre : ∀ k, surmiseref04_Name.f k s = surmiseref04_Name.j0 k s (!letS (bt s 0)) := fun k => by
          simp only [surmiseref04_Name.f]
          rw [if_neg (by omega), if_neg (by omega), if_neg (fun h => h4 (by simp [wordS, h])), if_neg (fun h => h4 (by simp [wordS, h])), if_neg (fun h => h4 (by simp [wordS, h])), if_pos (by omega)]
          simp only [letter_ref, Option.bind_some]
        simp only [surmiseref04_Name.f] at pre
        refine Ev.congr pre ?_
        cases h3 : letS (bt s 0) with
        | true =>
          rw [if_neg (by rintro (h | h | h | h); exact h1 h; exact h2 h; exact h4 h; cases h)]
          refine Ev.step (fun k => ?_) (name_ref_l0 s (by omega))
          simp only [surmiseref04_Name.j0, Bool.not_true, Bool.false_eq_true, if_false]
        | false =>
          rw [if_pos (.inr (.inr (.inr rfl)))]
          exact yes
def dupBad (l : List ByteArray) (i : Nat) (k : Nat) : Option (Int × Int) := if (rdOf ByteArray.empty l (k : Int)).toList = (rdOf ByteArray.empty l (i : Int)).toList then some ((i : Int), 9) else none
def nameBad (l : List ByteArray) (i : Nat) : Option (Int × Int) := if nameS (rdOf ByteArray.empty l (i : Int)) = true then scan (dupBad l i) i 0 else some ((i : Int), 6)
def namesS (l : List ByteArray) (most : Int) : Int × Int := if (l.length : Int) > most then (0, 4) else (scan (nameBad l) l.length 0).getD (0, 0)
theorem rdOf_take {α : Type} (d : α) (l : List α) {n k : Nat} (h : k < n) : rdOf d (l.take n) (k : Int) = rdOf d l (k : Int) := by
  simp only [rdOf, Int.toNat_natCast]; exact take_getD l d h
theorem names_l1 (l : List ByteArray) (hl : (l.length : Int) < 9223372036854775807) (i : Nat) (hi : i < l.length) :
    Loop (fun k j => rules_names.l1 k l (i : Int) (rdOf ByteArray.empty l (i : Int)) l (l.length : Int) (i : Int) (l.take i) ((l.take i).length : Int) j) (dupBad l i) i := by
  have hlen : (l.take i).length = i := by rw [List.length_take]; omega
  refine Loop.of fun j hj k => ?_
  simp only [rules_names.l1, dupBad]
  rw [if_pos (by omega), if_pos (by omega), if_pos (by omega), rdOf_take _ l hj, w64 (by omega) (by omega)]
  by_cases c : (rdOf ByteArray.empty l (j : Int)).toList = (rdOf ByteArray.empty l (i : Int)).toList
  · simp only [if_pos c]
  · simp only [if_neg c]
theorem names_ev (l : List ByteArray) (most : Int) (hl : (l.length : Int) < 9223372036854775807) : Ev (fun k => rules_names.f k l most) (namesS l most) := by
  simp only [rules_names.f, namesS]
  by_cases c : (l.length : Int) > most
  · simp only [if_pos c]; exact Ev.now _
  simp only [if_neg c]
  refine Loop.ev (F := fun k j => rules_names.l0 k l l (l.length : Int) j) (Loop.by_ (fun i k => (infix_Name.f k (rdOf ByteArray.empty l (i : Int))).bind fun t => if t = true then rules_names.l1 k l (i : Int) (rdOf ByteArray.empty l (i : Int)) l (l.length : Int) (i : Int) (l.take i) ((l.take i).length : Int) 0 else some ((i : Int), 6)) (fun i hi k => ?_) (fun i hi r hr => ?_) (fun i hi hb r hr => ?_)) (Ev.step (f := fun _ => some (0, 0)) (fun k => ?_) (Ev.now _))
  · simp only [rules_names.l0]
    rw [if_pos (by omega), if_pos (by omega), if_pos (by omega), if_pos (show (i : Int) ≤ (l.length : Int) by omega)]
    simp only [Option.bind_some, Int.toNat_natCast]
  · refine Ev.bind (name_ev _) ?_
    rw [nameBad] at hr
    by_cases cn : nameS (rdOf ByteArray.empty l (i : Int)) = true
    · rw [if_pos cn] at hr; simp only [if_pos cn]
      exact (names_l1 l hl i hi).found (m := i) (i := 0) (by omega) hr
    · rw [if_neg cn] at hr; cases hr; simp only [if_neg cn]; exact Ev.now _
  · refine Ev.bind (name_ev _) ?_
    rw [nameBad] at hb
    by_cases cn : nameS (rdOf ByteArray.empty l (i : Int)) = true
    · rw [if_pos cn] at hb; simp only [if_pos cn]
      refine (names_l1 l hl i hi).past (m := i) (i := 0) (Ev.step (fun k => ?_) hr) (by omega) hb
      simp only [rules_names.l1]; rw [if_neg (by rw [List.length_take]; omega), w1 hl hi]
    · rw [if_neg cn] at hb; cases hb
  · simp only [rules_names.l0]; rw [if_neg (by omega)]
theorem names_ref_l1 (l : List ByteArray) (hl : (l.length : Int) < 9223372036854775807) (i : Nat) (hi : i < l.length) : Loop (fun k j => surmiseref05_Names.l1 k l (i : Int) j) (dupBad l i) i := by
  refine Loop.of fun j hj k => ?_
  simp only [surmiseref05_Names.l1, dupBad]
  rw [if_pos (by omega), if_pos (by omega), if_pos (by omega), if_pos (by omega), if_pos (by omega), w64 (by omega) (by omega)]
  by_cases c : (rdOf ByteArray.empty l (j : Int)).toList = (rdOf ByteArray.empty l (i : Int)).toList
  · simp only [if_pos c]
  · simp only [if_neg c]
theorem names_ref_ev (l : List ByteArray) (most : Int) (hl : (l.length : Int) < 9223372036854775807) : Ev (fun k => surmiseref05_Names.f k l most) (namesS l most) := by
  simp only [surmiseref05_Names.f, namesS]
  by_cases c : (l.length : Int) > most
  · simp only [if_pos c]; exact Ev.now _
  simp only [if_neg c]
  refine Loop.ev (F := fun k j => surmiseref05_Names.l0 k l j) (Loop.by_ (fun i k => (surmiseref04_Name.f k (rdOf ByteArray.empty l (i : Int))).bind fun t => if t = true then surmiseref05_Names.l1 k l (i : Int) 0 else some ((i : Int), 6)) (fun i hi k => ?_) (fun i hi r hr => ?_) (fun i hi hb r hr => ?_)) (Ev.step (f := fun _ => some (0, 0)) (fun k => ?_) (Ev.now _))
  · simp only [surmiseref05_Names.l0]
    rw [if_pos (by omega), if_pos (by omega)]
  · refine Ev.bind (name_ref_ev _) ?_
    rw [nameBad] at hr
    by_cases cn : nameS (rdOf ByteArray.empty l (i : Int)) = true
    · rw [if_pos cn] at hr; simp only [if_pos cn]
      exact (names_ref_l1 l hl i hi).found (m := i) (i := 0) (by omega) hr
    · rw [if_neg cn] at hr; cases hr; simp only [if_neg cn]; exact Ev.now _
  · refine Ev.bind (name_ref_ev _) ?_
    rw [nameBad] at hb
    by_cases cn : nameS (rdOf ByteArray.empty l (i : Int)) = true
    · rw [if_pos cn] at hb; simp only [if_pos cn]
      refine (names_ref_l1 l hl i hi).past (m := i) (i := 0) (Ev.step (fun k => ?_) hr) (by omega) hb
      simp only [surmiseref05_Names.l1]; rw [if_neg (by omega), w1 hl hi]
    · rw [if_neg cn] at hb; cases hb
  · simp only [surmiseref05_Names.l0]; rw [if_neg (by omega)]
end Go.Proofs.Ytdfhbmallnegfaa.Rules
