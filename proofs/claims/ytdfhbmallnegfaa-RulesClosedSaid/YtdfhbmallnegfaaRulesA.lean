/- Plain laws on names, in the program, without rounds. -/
import Derived.Test.YtdfhbmallnegfaaRulesL
import Derived.Test.YtdfhbmallnegfaaExprK
import Derived.Test.YtdfhbmallnegfaaPAx8
namespace Go.Proofs.Ytdfhbmallnegfaa.Rules
open Go.RowKit Go.Proofs.Ytdfhbmallnegfaa.PA Go.Proofs.YtdfhbmallnegfaaW.PrintWords Go.Proofs.YtdfhbmallnegfaaW.PrintLast Go.Proofs.YtdfhbmallnegfaaW.PrintMore Go.Proofs.Ytdfhbmallnegfaa.Expr
set_option linter.unusedVariables false
set_option linter.unusedSimpArgs false


/-! ### names -/
def letS (b : Int) : Bool := decide (97 ≤ b ∧ b ≤ 122)
def digS (b : Int) : Bool := decide (48 ≤ b ∧ b ≤ 57)
theorem letter_f (b : Int) : infix_letter.f b = some (letS b) := by
  simp only [infix_letter.f, letS]
  by_cases h : b ≥ 97
  · rw [if_pos h]; simp [h]
  · rw [if_neg h]; simp [h]
theorem digit_f (b : Int) : infix_digit.f b = some (digS b) := by
  simp only [infix_digit.f, digS]
  by_cases h : b ≥ 48
  · rw [if_pos h]; simp [h]
  · rw [if_neg h]; simp [h]
def chrBad (s : ByteArray) (i : Nat) : Option Bool := if letS (bt s i) = true ∨ digS (bt s i) = true ∨ bt s i = 95 then none else some false
def wordS (s : ByteArray) : Bool := decide (s.toList = ([109, 105, 110] : List UInt8)) || (decide (s.toList = ([109, 97, 120] : List UInt8)) || decide (s.toList = ([105, 102] : List UInt8)))
def nameS (s : ByteArray) : Bool := if s.size < 1 ∨ s.size > 24 ∨ wordS s = true ∨ letS (bt s 0) = false then false else (scan (chrBad s) s.size 0).getD true
theorem name_l0 (s : ByteArray) (hs : s.size ≤ 24) : Ev (fun k => infix_Name.l0 k s (s.size : Int) 0) ((scan (chrBad s) s.size 0).getD true) := by
  refine Loop.ev (F := fun k i => infix_Name.l0 k s (s.size : Int) i) (Loop.of fun i hi k => ?_) (Ev.step (f := fun _ => some true) (fun k => ?_) (Ev.now _))
  · simp only [infix_Name.l0, letter_f, digit_f, Option.bind_some, chrBad]
    rw [if_pos (by omega), if_pos (by omega), if_pos (by omega), w64 (by omega) (by omega)]
    by_cases h1 : letS (bt s i) = true
    · rw [if_pos h1, if_pos (.inl h1)]
    · by_cases h2 : digS (bt s i) = true
      · rw [if_neg h1, if_pos h2, if_pos (.inr (.inl h2))]
      · by_cases h3 : bt s i = 95
        · rw [if_neg h1, if_neg h2, if_pos h3, if_pos (.inr (.inr h3))]
        · rw [if_neg h1, if_neg h2, if_neg h3, if_neg (fun h => h.elim h1 fun h => h.elim h2 h3)]
  · simp only [infix_Name.l0]; rw [if_neg (by omega)]
theorem name_ev (s : ByteArray) : Ev (fun k => infix_Name.f k s) (nameS s) := by
  have yes : Ev (fun k => infix_Name.j0 k s true) false := Ev.step (f := fun _ => some false) (fun k => by simp only [infix_Name.j0, if_true]) (Ev.now _)
  simp only [infix_Name.f, nameS]
  by_cases h1 : s.size < 1
  · rw [if_pos (.inl h1)]
    refine Ev.congr (fun k => ?_) yes
    rw [if_pos (by omega)]
  · by_cases h2 : s.size > 24
    · rw [if_pos (.inr (.inl h2))]
      refine Ev.congr (fun k => ?_) yes
      rw [if_neg (by omega), if_pos (by omega)]
    · by_cases h3 : letS (bt s 0) = true
      · by_cases h4 : wordS s = true
        · rw [if_pos (.inr (.inr (.inl h4)))]
          refine Ev.congr (fun k => ?_) yes
          rw [if_neg (by omega), if_neg (by omega), if_pos (by omega)]
          simp only [letter_f, Option.bind_some, if_pos h3, infix_reserved.f]
          by_cases a1 : s.toList = ([109, 105, 110] : List UInt8)
          · simp [a1]
          · by_cases a2 : s.toList = ([109, 97, 120] : List UInt8)
            · simp [a2]
            · by_cases a3 : s.toList = ([105, 102] : List UInt8)
              · simp [a3]
              · simp [wordS, a1, a2, a3] at h4
        · rw [if_neg (by rw [h3]; rintro (h | h | h | h); exact h1 h; exact h2 h; exact h4 h; cases h)]
          have := name_l0 s (by omega)
          refine Ev.congr (fun k => ?_) (Ev.step (g := fun k => infix_Name.j0 k s false) (fun k => ?_) this)
          · rw [if_neg (by omega), if_neg (by omega), if_pos (by omega)]
            have e : infix_reserved.f s = some 0 := by
              simp only [infix_reserved.f]
              rw [if_neg (fun h => h4 (by simp [wordS, h])), if_neg (fun h => h4 (by simp [wordS, h])), if_neg (fun h => h4 (by simp [wordS, h]))]
            simp only [letter_f, Option.bind_some, if_pos h3, e]
            rfl
          · simp only [infix_Name.j0, Bool.false_eq_true, if_false]
      · rw [if_pos (.inr (.inr (.inr (by simpa using h3))))]
        refine Ev.congr (fun k => ?_) yes
        rw [if_neg (by omega), if_neg (by omega), if_pos (by omega)]
        simp only [letter_f, Option.bind_some, if_neg h3]
def dupBad (l : List ByteArray) (i : Nat) (k : Nat) : Option (Int × Int) := if (rdOf ByteArray.empty l (k : Int)).toList = (rdOf ByteArray.empty l (i : Int)).toList then some ((i : Int), 9) else none
def nameBad (l : List ByteArray) (i : Nat) : Option (Int × Int) := if nameS (rdOf ByteArray.empty l (i : Int)) = true then scan (dupBad l i) i 0 else some ((i : Int), 6)
def namesS (l : List ByteArray) (most : Int) : Int × Int := if (l.length : Int) > most then (0, 4) else (scan (nameBad l) l.length 0).getD (0, 0)
theorem names_l1 (l : List ByteArray) (hl : (l.length : Int) < 9223372036854775807) (i : Nat) (hi : i < l.length) :
    Loop (fun k j => rules_names.l1 k l (i : Int) (rdOf ByteArray.empty l (i : Int)) l (l.length : Int) (i : Int) (l.take i) ((l.take i).length : Int) j) (dupBad l i) i := by
  have hlen : (l.take i).length = i := by rw [List.length_take]; omega
  refine Loop.of fun j hj k => ?_
  simp only [rules_names.l1, dupBad]
  rw [if_pos (by omega), if_pos (by omega), if_pos (by omega), rdOf_take _ l hj, w64 (by omega) (by omega)]
  by_cases c : (rdOf ByteArray.empty l (j : Int)).toList = (rdOf ByteArray.empty l (i : Int)).toList
  · simp only [if_pos c]
  · simp only [if_neg c]
theorem names_ev (l : List ByteArray) (most : Int) (hl : (l.length : Int) < 9223372036854775807) : Ev (fun k => rules_names.f k l most) (namesS l most) := by
  simp only [rules_names.f, namesS]
  by_cases c : (l.length : Int) > most
  · simp only [if_pos c]; exact Ev.now _
  simp only [if_neg c]
  refine Loop.ev (F := fun k j => rules_names.l0 k l l (l.length : Int) j) (Loop.by_ (fun i k => (infix_Name.f k (rdOf ByteArray.empty l (i : Int))).bind fun t => if t = true then rules_names.l1 k l (i : Int) (rdOf ByteArray.empty l (i : Int)) l (l.length : Int) (i : Int) (l.take i) ((l.take i).length : Int) 0 else some ((i : Int), 6)) (fun i hi k => ?_) (fun i hi r hr => ?_) (fun i hi hb r hr => ?_)) (Ev.step (f := fun _ => some (0, 0)) (fun k => ?_) (Ev.now _))
  · simp only [rules_names.l0]
    rw [if_pos (by omega), if_pos (by omega), if_pos (by omega), if_pos (show (i : Int) ≤ (l.length : Int) by omega)]
    simp only [Option.bind_some, Int.toNat_natCast]
  · refine Ev.bind (name_ev _) ?_
    rw [nameBad] at hr
    by_cases cn : nameS (rdOf ByteArray.empty l (i : Int)) = true
    · rw [if_pos cn] at hr; simp only [if_pos cn]
      exact (names_l1 l hl i hi).found (m := i) (i := 0) (by omega) hr
    · rw [if_neg cn] at hr; cases hr; simp only [if_neg cn]; exact Ev.now _
  · refine Ev.bind (name_ev _) ?_
    rw [nameBad] at hb
    by_cases cn : nameS (rdOf ByteArray.empty l (i : Int)) = true
    · rw [if_pos cn] at hb; simp only [if_pos cn]
      refine (names_l1 l hl i hi).past (m := i) (i := 0) (Ev.step (fun k => ?_) hr) (by omega) hb
      simp only [rules_names.l1]; rw [if_neg (by rw [List.length_take]; omega), w1 hl hi]
    · rw [if_neg cn] at hb; cases hb
  · simp only [rules_names.l0]; rw [if_neg (by omega)]
end Go.Proofs.Ytdfhbmallnegfaa.Rules
