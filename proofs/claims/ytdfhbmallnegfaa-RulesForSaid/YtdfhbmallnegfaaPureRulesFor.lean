/- Proved: for every table, rule, state and name: For answers as the reference's, and Find tells the first rule of the name.
   Conditions: none beyond the row's own. -/
import Derived.Test.YtdfhbmallnegfaaRulesL
import Derived.Test.YtdfhbmallnegfaaRulesAwake
import Derived.Test.YtdfhbmallnegfaaSaidRulesFor
namespace Go.Proofs.Ytdfhbmallnegfaa.Pure
open Go.RowKit Go.Proofs.Ytdfhbmallnegfaa.PA Go.Proofs.YtdfhbmallnegfaaW.PrintWords Go.Proofs.Ytdfhbmallnegfaa.Rules Go.Proofs.Ytdfhbmallnegfaa.Expr
set_option linter.unusedVariables false
set_option linter.unusedSimpArgs false
def lightBad (ru : List S38) (i : Nat) : Option Bool :=
  if ((rd_T38 ru (i : Int)).f2.length : Int) > 40 then some false else if ((rd_T38 ru (i : Int)).f4.length : Int) > 40 then some false else if ((rd_T38 ru (i : Int)).f3.length : Int) > 40 then some false else none
theorem light_ev (st va : List ByteArray) (start : List Int) (ru : List S38) (hl : (ru.length : Int) < 9223372036854775807) : ∃ b, Ev (fun k => surmiselaw05_light.f k st va start ru) b := by
  have key : ∀ c, ∃ b, Ev (fun k => surmiselaw05_light.j0 k c st va start ru) b := by
    intro c
    cases c with
    | true => exact ⟨false, Ev.step (f := fun _ => some false) (fun k => by simp only [surmiselaw05_light.j0, if_true]) (Ev.now _)⟩
    | false =>
      refine ⟨(scan (lightBad ru) ru.length 0).getD true, Ev.step (f := fun k => surmiselaw05_light.l0 k 0 st va start ru) (fun k => by simp only [surmiselaw05_light.j0, Bool.false_eq_true, if_false]) ?_⟩
      refine Loop.ev (F := fun k j => surmiselaw05_light.l0 k j st va start ru) (Loop.of fun i hi k => ?_) (Ev.step (f := fun _ => some true) (fun k => ?_) (Ev.now _))
      · simp only [surmiselaw05_light.l0, lightBad]
        rw [if_pos (by omega), if_pos (by omega), w1 hl hi]
        by_cases c1 : ((rd_T38 ru (i : Int)).f2.length : Int) > 40
        · simp only [if_pos c1]
        · simp only [if_neg c1]
          by_cases c2 : ((rd_T38 ru (i : Int)).f4.length : Int) > 40
          · simp only [if_pos c2]
          · simp only [if_neg c2]
            by_cases c3 : ((rd_T38 ru (i : Int)).f3.length : Int) > 40
            · simp only [if_pos c3]
            · simp only [if_neg c3]
      · simp only [surmiselaw05_light.l0]; rw [if_neg (by omega)]
  simp only [surmiselaw05_light.f]
  by_cases c1 : (st.length : Int) > 40
  · simp only [if_pos c1]; exact key _
  · simp only [if_neg c1]
    by_cases c2 : (va.length : Int) > 40
    · simp only [if_pos c2]; exact key _
    · simp only [if_neg c2]; exact key _
theorem want_ev (st va : List ByteArray) (start : List Int) (ru : List S38) (n s : Int) (name : ByteArray) (hl : (ru.length : Int) < 9223372036854775807) (hf : froms ru) : ∀ (m : Nat) (w : Int), m ≤ ru.length → (scan (findBad ru name) m 0).getD w = findS ru name →
    Ev (fun k => surmiselaw05_RulesFor.l0 k n s name w ((m : Int) - 1) st va start ru) true
  | 0, w, hm, hw => by
    refine Ev.step (f := fun k => (surmiselaw05_awake.f k).bind fun t => if t = true then (rules_For.f k st va start ru n s).bind fun a => (surmiseref05_For.f k st va start ru n s).bind fun b => if (a == b) = true then (rules_Find.f k st va start ru name).bind fun c => some (c == w) else none else none) (fun k => ?_) ?_
    · simp only [surmiselaw05_RulesFor.l0]; rw [if_neg (by omega)]
    · refine Ev.bind awake_ev ?_
      simp only [if_true]
      refine Ev.bind (for_ev st va start ru hf n s) (Ev.bind (for_ref_ev st va start ru hf n s) ?_)
      simp only [beq_self_eq_true, if_true]
      refine Ev.bind (find_ev st va start ru name hl) ?_
      have e : (findS ru name == w) = true := by
        rw [← hw]; exact beq_self_eq_true w
      rw [e]
      exact Ev.now _
  | m + 1, w, hm, hw => by
    have e1 : ((m + 1 : Nat) : Int) - 1 = (m : Int) := by omega
    rw [e1]
    rw [scan_snoc, Nat.zero_add] at hw
    by_cases c : (rd_T38 ru (m : Int)).f0.toList = name.toList
    · refine Ev.step (fun k => ?_) (want_ev st va start ru n s name hl hf m (m : Int) (by omega) ?_)
      · simp only [surmiselaw05_RulesFor.l0]
        rw [if_pos (by omega), if_pos (by omega), if_pos (by omega), if_pos c, w64 (by omega) (by omega)]
      · rw [← hw, findBad, if_pos c]
        cases scan (findBad ru name) m 0 <;> rfl
    · refine Ev.step (fun k => ?_) (want_ev st va start ru n s name hl hf m w (by omega) ?_)
      · simp only [surmiselaw05_RulesFor.l0]
        rw [if_pos (by omega), if_pos (by omega), if_pos (by omega), if_neg c, w64 (by omega) (by omega)]
      · rw [← hw, findBad, if_neg c]
        cases scan (findBad ru name) m 0 <;> rfl
theorem RulesFor : Go.Proofs.Ytdfhbmallnegfaa.SaidRulesFor.surmiselaw05_RulesFor.Pure := by
  rintro ⟨⟨st, va, start, ru⟩, n, s, name⟩ ⟨⟨h0, h1, h2, h3⟩, _⟩
  have l3 : (ru.length : Int) < 9223372036854775807 := by have := h3.2.1; simp only at this; omega
  have hf : fitsAll ru := fitsAll_of fun y hy => by
    have g := h3.2.2 y hy
    refine ⟨by have := g.2.2.1.2.1; omega, fun s hs => ?_⟩
    have := (g.2.2.2.2.2.2 s hs).1.2.1
    omega
  refine Ev.rounds (g := fun k => surmiselaw05_RulesFor.f k st va start ru n s name) ?_
  simp only [surmiselaw05_RulesFor.f]
  obtain ⟨b, hb⟩ := light_ev st va start ru l3
  refine Ev.bind hb ?_
  cases b with
  | false => simp only [Bool.false_eq_true, if_false]; exact Ev.bind awake_ev (Ev.now _)
  | true =>
    simp only [if_true, w64 (x := (ru.length : Int) - 1) (by omega) (by omega)]
    exact want_ev st va start ru n s name l3 (froms_of hf) ru.length (-1) (Nat.le_refl _) rfl
end Go.Proofs.Ytdfhbmallnegfaa.Pure
