/- Plain laws on tables: the program's Reach tells just what can be reached, without rounds. -/
import Derived.Test.YtdfhbmallnegfaaRulesF
namespace Go.Proofs.Ytdfhbmallnegfaa.Rules
open Go.RowKit Go.Proofs.Ytdfhbmallnegfaa.PA Go.Proofs.YtdfhbmallnegfaaW.PrintWords Go.Proofs.YtdfhbmallnegfaaW.PrintLast Go.Proofs.YtdfhbmallnegfaaW.PrintMore Go.Proofs.Ytdfhbmallnegfaa.Expr
set_option linter.unusedVariables false
set_option linter.unusedSimpArgs false


/-- How many are not marked. -/
def cnt : List Bool → Nat
  | [] => 0
  | b :: l => (if b = true then 0 else 1) + cnt l
theorem cnt_le : ∀ l : List Bool, cnt l ≤ l.length
  | [] => Nat.le_refl _
  | b :: l => by
    have := cnt_le l
    unfold cnt
    rw [List.length_cons]
    split <;> omega
theorem cnt_set : ∀ (l : List Bool) (s : Nat), s < l.length → l.getD s false = false → cnt (l.set s true) + 1 = cnt l
  | [], s, h, _ => by simp at h
  | b :: l, 0, _, h => by
    have hb : b = false := by simpa using h
    subst hb
    simp [cnt]
    omega
  | b :: l, s + 1, hs, h => by
    have ih := cnt_set l s (by simpa using hs) (by simpa using h)
    simp only [List.set_cons_succ, cnt]
    omega
theorem getD_set (l : List Bool) (i j : Nat) : (l.set i true).getD j false = if i = j ∧ i < l.length then true else l.getD j false := by
  simp only [List.getD_eq_getElem?_getD, List.getElem?_set]
  by_cases h : i = j
  · subst h
    by_cases h2 : i < l.length
    · simp [h2]
    · simp [h2]
  · simp [h]
theorem set_mono {l : List Bool} {i j : Nat} (h : l.getD j false = true) : (l.set i true).getD j false = true := by
  rw [getD_set]; split
  · rfl
  · exact h
theorem set_here {l : List Bool} {i : Nat} (h : i < l.length) : (l.set i true).getD i false = true := by rw [getD_set, if_pos ⟨rfl, h⟩]
structure Inv (st : List ByteArray) (ru : List S38) (out : List Bool) (wait : List Int) : Prop where
  len : out.length = st.length
  can : ∀ s : Nat, s < st.length → out.getD s false = true → Can st ru (s : Int)
  wcan : ∀ x ∈ wait, Can st ru x
  zero : out.getD 0 false = true ∨ (0 : Int) ∈ wait
  closed : ∀ s : Nat, s < st.length → out.getD s false = true → ∀ n : Nat, n < ru.length → forS st ru (n : Int) (s : Int) = true → out.getD (leads st ru n (s : Int)).toNat false = true ∨ leads st ru n (s : Int) ∈ wait
theorem reach_l0 (st va : List ByteArray) (start : List Int) (ru : List S38) (L : Leads st ru) (hf : froms ru) : ∀ (q : Nat) (out : List Bool) (wait : List Int), cnt out * 13 + wait.length ≤ q → q ≤ 500 → Inv st ru out wait →
    ∃ r, Ev (fun k => rules_Reach.l0 k out wait st va start ru) r ∧ Good st ru r := by
  intro q
  induction q with
  | zero =>
    intro out wait hq _ I
    have : wait = [] := List.eq_nil_of_length_eq_zero (by omega)
    subst this
    refine ⟨out, Ev.step (f := fun _ => some out) (fun k => by simp only [rules_Reach.l0]; rw [if_neg (by simp)]) (Ev.now _), good_of L I.len I.can ?_ ?_⟩
    · exact I.zero.resolve_right (by simp)
    · intro s hs ho n hn hfo; exact (I.closed s hs ho n hn hfo).resolve_right (by simp)
  | succ q ih =>
    intro out wait hq h500 I
    rcases List.eq_nil_or_concat wait with rfl | ⟨pre, x, rfl⟩
    · refine ⟨out, Ev.step (f := fun _ => some out) (fun k => by simp only [rules_Reach.l0]; rw [if_neg (by simp)]) (Ev.now _), good_of L I.len I.can ?_ ?_⟩
      · exact I.zero.resolve_right (by simp)
      · intro s hs ho n hn hfo; exact (I.closed s hs ho n hn hfo).resolve_right (by simp)
    · simp only [List.concat_eq_append] at *
      have hx := can_lt L (I.wcan x (List.mem_append_right _ (List.mem_singleton.2 rfl)))
      have hlen : ((pre ++ [x]).length : Int) = (pre.length : Int) + 1 := by simp
      have hln : (pre ++ [x]).length = pre.length + 1 := by simp
      have e1 : wrap64 (((pre ++ [x]).length : Int) - 1) = (pre.length : Int) := by rw [hlen, w64 (by omega) (by omega)]; omega
      have e2 : (pre ++ [x]).take pre.length = pre := List.take_left' rfl
      have e3 : rd (pre ++ [x]) (pre.length : Int) = x := by simp [rd, List.getD_eq_getElem?_getD]
      have eo : rdOf false out x = out.getD x.toNat false := rfl
      have step : ∀ k, rules_Reach.l0 (k + 1) out (pre ++ [x]) st va start ru = if out.getD x.toNat false = true then rules_Reach.l0 k out pre st va start ru else rules_Reach.l1 k (out.set x.toNat true) pre x ru (ru.length : Int) 0 st va start ru := by
        intro k
        simp only [rules_Reach.l0, e1, e3, Int.toNat_natCast, e2, Option.bind_some, eo]
        rw [if_pos (by omega), if_pos (by omega), if_pos (by omega), if_pos (by omega), if_pos hx.1, if_pos (by rw [I.len]; exact hx.2)]
      have hxs : x.toNat < out.length := by rw [I.len]; omega
      by_cases c : out.getD x.toNat false = true
      · have I' : Inv st ru out pre := by
          refine ⟨I.len, I.can, fun y hy => I.wcan y (List.mem_append_left _ hy), ?_, ?_⟩
          · rcases I.zero with h | h
            · exact .inl h
            · rcases List.mem_append.1 h with h | h
              · exact .inr h
              · left
                have : x = 0 := (List.mem_singleton.1 h).symm
                subst this; exact c
          · intro s hs ho n hn hfo
            rcases I.closed s hs ho n hn hfo with h | h
            · exact .inl h
            · rcases List.mem_append.1 h with h | h
              · exact .inr h
              · rw [List.mem_singleton.1 h]; exact .inl c
        obtain ⟨r, hr, hg⟩ := ih out pre (by omega) (by omega) I'
        exact ⟨r, Ev.step (fun k => by rw [step k, if_pos c]) hr, hg⟩
      · have c' : out.getD x.toNat false = false := by simpa using c
        have hc := cnt_set out x.toNat hxs c'
        have h12 := L.2.2.1
        have hal := addW_len (st := st) (ru := ru) (s := x) (m := ru.length) (n := 0) (w := pre)
        have I' : Inv st ru (out.set x.toNat true) (addW st ru x ru.length 0 pre) := by
          refine ⟨by rw [List.length_set]; exact I.len, ?_, ?_, ?_, ?_⟩
          · intro s hs ho
            rw [getD_set] at ho
            by_cases e : x.toNat = s ∧ x.toNat < out.length
            · rw [← e.1, Int.toNat_of_nonneg hx.1]
              exact I.wcan x (List.mem_append_right _ (List.mem_singleton.2 rfl))
            · rw [if_neg e] at ho; exact I.can s hs ho
          · intro y hy
            rcases addW_mem hy with hy | ⟨j, _, hj, hfo, rfl⟩
            · exact I.wcan y (List.mem_append_left _ hy)
            · exact Can.step (I.wcan x (List.mem_append_right _ (List.mem_singleton.2 rfl))) (by omega) hfo
          · rcases I.zero with h | h
            · exact .inl (set_mono h)
            · rcases List.mem_append.1 h with h | h
              · exact .inr (addW_old h)
              · left
                have : x = 0 := (List.mem_singleton.1 h).symm
                subst this; exact set_here hxs
          · intro s hs ho n hn hfo
            rw [getD_set] at ho
            by_cases e : x.toNat = s ∧ x.toNat < out.length
            · have es : (s : Int) = x := by rw [← e.1, Int.toNat_of_nonneg hx.1]
              rw [es] at hfo ⊢
              exact .inr (addW_new (Nat.zero_le _) (by omega) hfo)
            · rw [if_neg e] at ho
              rcases I.closed s hs ho n hn hfo with h | h
              · exact .inl (set_mono h)
              · rcases List.mem_append.1 h with h | h
                · exact .inr (addW_old h)
                · rw [List.mem_singleton.1 h]; exact .inl (set_here hxs)
        obtain ⟨r, hr, hg⟩ := ih (out.set x.toNat true) (addW st ru x ru.length 0 pre) (by omega) (by omega) I'
        refine ⟨r, Ev.step (f := fun k => rules_Reach.l1 k (out.set x.toNat true) pre x ru (ru.length : Int) ((0 : Nat) : Int) st va start ru) (fun k => by rw [step k, if_neg c]; rfl) (reach_l1 st va start ru L hf (out.set x.toNat true) r x ru.length 0 pre (by omega) ?_ hr), hg⟩
        have : cnt out * 13 + (pre.length + 1) ≤ q + 1 := by omega
        omega
theorem getD_rep (n i : Nat) : (List.replicate n false).getD i false = false := by
  rw [List.getD_eq_getElem?_getD, List.getElem?_replicate]; split <;> rfl
theorem reach_ev (st va : List ByteArray) (start : List Int) (ru : List S38) (h0 : (st.length : Int) < 9223372036854775807) (h1 : (va.length : Int) < 9223372036854775807) (h2 : (start.length : Int) < 9223372036854775807) (h3 : (ru.length : Int) < 9223372036854775807) (hf : fitsAll ru) (c : (checkT st va start ru).1 = 0) :
    ∃ r, Ev (fun k => rules_Reach.f k st va start ru) r ∧ Good st ru r := by
  have L := leads_of c
  have h8 := L.2.1
  obtain ⟨r, hr, hg⟩ := reach_l0 st va start ru L (froms_of hf) 500 (List.replicate st.length false) [0] (by have := cnt_le (List.replicate st.length false); rw [List.length_replicate] at this; simp only [List.length_singleton]; omega) (by omega)
    ⟨List.length_replicate, fun s _ h => by rw [getD_rep] at h; exact Bool.noConfusion h, fun x hx => by rw [List.mem_singleton.1 hx]; exact Can.zero, .inr (List.mem_singleton.2 rfl), fun s _ h => by rw [getD_rep] at h; exact Bool.noConfusion h⟩
  refine ⟨r, ?_, hg⟩
  simp only [rules_Reach.f]
  refine Ev.bind (right_ev st va start ru h0 h1 h2 h3 hf) ?_
  simp only [decide_eq_true c, if_true]
  refine Ev.congr (fun k => ?_) hr
  rw [if_pos (by omega), if_pos (by omega)]
  simp only [Int.toNat_natCast]
theorem reach_none (st va : List ByteArray) (start : List Int) (ru : List S38) (h0 : (st.length : Int) < 9223372036854775807) (h1 : (va.length : Int) < 9223372036854775807) (h2 : (start.length : Int) < 9223372036854775807) (h3 : (ru.length : Int) < 9223372036854775807) (hf : fitsAll ru) (c : ¬ (checkT st va start ru).1 = 0) :
    Ev (fun k => rules_Reach.f k st va start ru) [] := by
  simp only [rules_Reach.f]
  refine Ev.bind (right_ev st va start ru h0 h1 h2 h3 hf) ?_
  simp only [decide_eq_false c, Bool.false_eq_true, if_false]
  exact Ev.now _

end Go.Proofs.Ytdfhbmallnegfaa.Rules
