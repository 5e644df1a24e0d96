/- Plain laws on expressions: what an instruction makes of numbers that are values, in the program and in the reference. -/
import Derived.Test.YthhnecbfcpmpbaaExprA
import Derived.Test.YthhnecbfcpmpbaaPAx4
namespace Go.Proofs.Ythhnecbfcpmpbaa.Expr
open Go.RowKit Go.Proofs.Ythhnecbfcpmpbaa.PA Go.Proofs.YthhnecbfcpmpbaaW.PrintWords Go.Proofs.YthhnecbfcpmpbaaW.PrintLast Go.Proofs.YthhnecbfcpmpbaaW.PrintMore
set_option linter.unusedVariables false
set_option linter.unusedSimpArgs false

theorem absmul (x y : Int) (X Y : Nat) (hx : x.natAbs ≤ X) (hy : y.natAbs ≤ Y) : (x * y).natAbs ≤ X * Y := by
  rw [Int.natAbs_mul]; exact Nat.mul_le_mul hx hy
theorem valueS_abs (n : Int) : valueS n = true ↔ n.natAbs ≤ 1099511627776 := by rw [valueS_iff]; omega
theorem mul_val (a b : Int) (hb0 : b ≠ 0) : ((a.natAbs : Int) > (1099511627776 : Int).tdiv (b.natAbs : Int)) ↔ ¬ ((a * b).natAbs ≤ 1099511627776) := by
  have hB : 0 < b.natAbs := by omega
  have e : (1099511627776 : Int).tdiv (b.natAbs : Int) = ((1099511627776 / b.natAbs : Nat) : Int) := by
    rw [Int.tdiv_eq_ediv_of_nonneg (by omega)]; rfl
  rw [e, Int.natAbs_mul]
  constructor
  · intro h h2
    have h3 : 1099511627776 / b.natAbs < a.natAbs := by omega
    rw [Nat.div_lt_iff_lt_mul hB] at h3
    omega
  · intro h
    have h3 : 1099511627776 / b.natAbs < a.natAbs := by
      rw [Nat.div_lt_iff_lt_mul hB]; omega
    omega
theorem halves (b : Int) : b.tdiv 1048576 * 1048576 + b.tmod 1048576 = b ∧ (b.tdiv 1048576).natAbs * 1048576 ≤ b.natAbs ∧ (b.tmod 1048576).natAbs < 1048576 := by
  rcases Int.le_total 0 b with h | h
  · rw [Int.tdiv_eq_ediv_of_nonneg h, Int.tmod_eq_emod_of_nonneg h]; omega
  · obtain ⟨c, rfl⟩ : ∃ c : Int, b = -c := ⟨-b, by omega⟩
    have hc : 0 ≤ c := by omega
    rw [Int.neg_tdiv, Int.neg_tmod, Int.tdiv_eq_ediv_of_nonneg hc, Int.tmod_eq_emod_of_nonneg hc]; omega
theorem times_split (a b : Int) (ha : a.natAbs ≤ 1099511627776) (hb : b.natAbs ≤ 1099511627776) :
   (a * b.tdiv 1048576).natAbs ≤ 1099511627776 * 1048576 ∧ (a * b.tmod 1048576).natAbs ≤ 1099511627776 * 1048576 ∧ (a * b.tdiv 1048576) * 1048576 + a * b.tmod 1048576 = a * b ∧ (2097152 < (a * b.tdiv 1048576).natAbs → 1099511627776 < (a * b).natAbs) := by
  obtain ⟨h3, h4, h5⟩ := halves b
  refine ⟨absmul _ _ _ _ ha (by omega), absmul _ _ _ _ ha (by omega), ?_, fun h => ?_⟩
  · rw [Int.mul_assoc, ← Int.mul_add, h3]
  · rw [Int.natAbs_mul] at h ⊢
    have h5 : a.natAbs * ((b.tdiv 1048576).natAbs * 1048576) ≤ a.natAbs * b.natAbs := Nat.mul_le_mul_left _ h4
    rw [← Nat.mul_assoc] at h5
    omega
theorem mx_abs (a : Int) (ha : a.natAbs ≤ 1099511627776) : mx a (wrap64 (-a)) = (a.natAbs : Int) := by
  rw [w64 (by omega) (by omega)]; unfold mx; split <;> omega

/-- What an instruction makes of values, if that is a value. -/
def vo (n : Int) : Option Int := if valueS n = true then some n else none
def tr (b : Bool) : Int := if b = true then 1 else 0
def madeS (op : Int) (l : List Int) : Option Int :=
  if op = 4 then some (-(rd l 0)) else if op = 5 then some (tr (rd l 0 == 0)) else if op = 16 then some (if rd l 0 = 0 then rd l 2 else rd l 1)
  else if op = 6 then vo (rd l 0 + rd l 1) else if op = 7 then vo (rd l 0 - rd l 1) else if op = 8 then vo (rd l 0 * rd l 1)
  else if op = 9 then some (mn (rd l 0) (rd l 1)) else if op = 10 then some (mx (rd l 0) (rd l 1))
  else if op = 11 then some (tr (decide (rd l 0 < rd l 1))) else if op = 12 then some (tr (decide (rd l 0 ≤ rd l 1))) else if op = 13 then some (tr (rd l 0 == rd l 1))
  else if op = 14 then some (tr (!(rd l 0 == 0) && !(rd l 1 == 0))) else some (tr (!(rd l 0 == 0) || !(rd l 1 == 0)))
theorem tr_val (b : Bool) : valueS (tr b) = true := by cases b <;> rfl
theorem madeS_val {op : Int} {l : List Int} {n : Int} (hv : ∀ i : Int, valueS (rd l i) = true) (h : madeS op l = some n) : valueS n = true := by
  have v0 := hv 0
  have v1 := hv 1
  have v2 := hv 2
  have vo_val : ∀ m : Int, vo m = some n → valueS n = true := by
    intro m hm
    unfold vo at hm
    split at hm
    · injection hm with hm; subst hm; assumption
    · cases hm
  unfold madeS at h
  by_cases c0 : op = 4
  · rw [if_pos c0] at h; injection h with h; subst h; exact (valueS_abs _).2 (by have := (valueS_abs _).1 v0; omega)
  rw [if_neg c0] at h
  by_cases c1 : op = 5
  · rw [if_pos c1] at h; injection h with h; subst h; exact tr_val _
  rw [if_neg c1] at h
  by_cases c2 : op = 16
  · rw [if_pos c2] at h; injection h with h; subst h; split <;> assumption
  rw [if_neg c2] at h
  by_cases c3 : op = 6
  · rw [if_pos c3] at h; exact vo_val _ h
  rw [if_neg c3] at h
  by_cases c4 : op = 7
  · rw [if_pos c4] at h; exact vo_val _ h
  rw [if_neg c4] at h
  by_cases c5 : op = 8
  · rw [if_pos c5] at h; exact vo_val _ h
  rw [if_neg c5] at h
  by_cases c6 : op = 9
  · rw [if_pos c6] at h; injection h with h; subst h; unfold mn; split <;> assumption
  rw [if_neg c6] at h
  by_cases c7 : op = 10
  · rw [if_pos c7] at h; injection h with h; subst h; unfold mx; split <;> assumption
  rw [if_neg c7] at h
  by_cases c8 : op = 11
  · rw [if_pos c8] at h; injection h with h; subst h; exact tr_val _
  rw [if_neg c8] at h
  by_cases c9 : op = 12
  · rw [if_pos c9] at h; injection h with h; subst h; exact tr_val _
  rw [if_neg c9] at h
  by_cases c10 : op = 13
  · rw [if_pos c10] at h; injection h with h; subst h; exact tr_val _
  rw [if_neg c10] at h
  by_cases c11 : op = 14
  · rw [if_pos c11] at h; injection h with h; subst h; exact tr_val _
  rw [if_neg c11] at h
  injection h with h; subst h; exact tr_val _
/-- An answer of a number and whether it is a value fits what is wanted. -/
def Fits (r : Int × Bool) (o : Option Int) : Prop := (r.2 = true → o = some r.1) ∧ (r.2 = false → o = none)
theorem fits_vo (n : Int) : Fits (n, valueS n) (vo n) := by
  unfold vo
  cases h : valueS n <;> simp [Fits, h]
theorem fits_some (n : Int) : Fits (n, true) (some n) := ⟨fun _ => rfl, fun h => by cases h⟩
theorem truth_f (b : Bool) : expr_truth.f b = some (tr b) := by cases b <;> rfl
theorem mul_ev (a b : Int) (ha : a.natAbs ≤ 1099511627776) (hb : b.natAbs ≤ 1099511627776) : ∃ r, Ev (fun k => expr_two_mul.f k a b) r ∧ Fits r (vo (a * b)) := by
  by_cases h0 : a = 0 ∨ b = 0
  · refine ⟨(0, true), ?_, ?_⟩
    · refine ⟨1, fun k hk => ?_⟩
      obtain ⟨k, rfl⟩ : ∃ m, k = m + 1 := ⟨k - 1, by omega⟩
      simp only [expr_two_mul.f, expr_two_mul.j0]
      by_cases h : a = 0
      · rw [if_pos h]; rfl
      · rw [if_neg h]
        have : b = 0 := by omega
        subst this; rfl
    · have e : a * b = 0 := by rcases h0 with rfl | rfl <;> simp
      rw [e]
      exact ⟨fun _ => rfl, fun h => by cases h⟩
  · have ha0 : a ≠ 0 := fun h => h0 (Or.inl h)
    have hb0 : b ≠ 0 := fun h => h0 (Or.inr h)
    have hk := mul_val a b hb0
    have hw : wrap64 ((1099511627776 : Int).tdiv (b.natAbs : Int)) = (1099511627776 : Int).tdiv (b.natAbs : Int) := by
      have e : (1099511627776 : Int).tdiv (b.natAbs : Int) = ((1099511627776 / b.natAbs : Nat) : Int) := by
        rw [Int.tdiv_eq_ediv_of_nonneg (by omega)]; rfl
      rw [e]
      have h9 : 1099511627776 / b.natAbs ≤ 1099511627776 := Nat.div_le_self _ _
      generalize 1099511627776 / b.natAbs = z at h9 ⊢
      exact w64 (by omega) (by omega)
    have run : ∀ k, 1 ≤ k → expr_two_mul.f k a b = if (a.natAbs : Int) > (1099511627776 : Int).tdiv (b.natAbs : Int) then some (0, false) else some (wrap64 (a * b), true) := by
      intro k hk
      obtain ⟨k, rfl⟩ : ∃ m, k = m + 1 := ⟨k - 1, by omega⟩
      simp only [expr_two_mul.f, expr_two_mul.j0]
      have e : (b == 0) = false := by simpa using hb0
      rw [if_neg ha0, e, mx_abs a ha, mx_abs b hb, hw]
      rw [if_neg (by decide), if_neg (by omega)]
    by_cases hc : (a.natAbs : Int) > (1099511627776 : Int).tdiv (b.natAbs : Int)
    · refine ⟨(0, false), ⟨1, fun k hk => (run k hk).trans (if_pos hc)⟩, ⟨(fun h => by cases h), fun _ => ?_⟩⟩
      have : valueS (a * b) = false := by
        rw [← Bool.not_eq_true, valueS_abs]; exact hk.1 hc
      simp [vo, this]
    · have hv : (a * b).natAbs ≤ 1099511627776 := Classical.byContradiction fun h => hc (hk.2 h)
      refine ⟨(a * b, true), ⟨1, fun k hk => (run k hk).trans ((if_neg hc).trans (by rw [w64 (by omega) (by omega)]))⟩, ⟨fun _ => ?_, (fun h => by cases h)⟩⟩
      simp [vo, (valueS_abs _).2 hv]
theorem mn_val {a b : Int} (ha : valueS a = true) (hb : valueS b = true) : valueS (mn a b) = true := by unfold mn; split <;> assumption
theorem mx_val {a b : Int} (ha : valueS a = true) (hb : valueS b = true) : valueS (mx a b) = true := by unfold mx; split <;> assumption
theorem does_ev (a b op : Int) (ha : valueS a = true) (hb : valueS b = true) (h6 : 6 ≤ op) (h15 : op ≤ 15) (l : List Int) (h0 : rd l 0 = a) (h1 : rd l 1 = b) : ∃ r, Ev (fun k => expr_two_does.f k a b op) r ∧ Fits r (madeS op l) := by
  have ha' := (valueS_abs a).1 ha
  have hb' := (valueS_abs b).1 hb
  have wa : wrap64 (a + b) = a + b := w64 (by omega) (by omega)
  have ws : wrap64 (a - b) = a - b := w64 (by omega) (by omega)
  have : op = 6 ∨ op = 7 ∨ op = 8 ∨ op = 9 ∨ op = 10 ∨ op = 11 ∨ op = 12 ∨ op = 13 ∨ op = 14 ∨ op = 15 := by omega
  rcases this with rfl | rfl | rfl | rfl | rfl | rfl | rfl | rfl | rfl | rfl
  · refine ⟨(a + b, valueS (a + b)), Ev.congr (fun k => ?_) (Ev.now _), ?_⟩
    · simp only [expr_two_does.f, value_f, Option.bind_some, wa]; rfl
    · simp only [madeS, h0, h1]; exact fits_vo _
  · refine ⟨(a - b, valueS (a - b)), Ev.congr (fun k => ?_) (Ev.now _), ?_⟩
    · simp only [expr_two_does.f, value_f, Option.bind_some, ws]; rfl
    · simp only [madeS, h0, h1]; exact fits_vo _
  · obtain ⟨r, hr, hf⟩ := mul_ev a b ha' hb'
    refine ⟨r, ?_, ?_⟩
    · have : Ev (fun k => (expr_two_mul.f k a b).bind fun q => some (q.1, q.2)) r := Ev.bind hr (Ev.now r)
      refine Ev.congr (fun k => ?_) this
      simp only [expr_two_does.f]; rfl
    · simp only [madeS, h0, h1]; exact hf
  · refine ⟨(mn a b, true), Ev.congr (fun k => ?_) (Ev.now _), ?_⟩
    · simp only [expr_two_does.f, value_f, Option.bind_some, mn_val ha hb]; rfl
    · simp only [madeS, h0, h1]; exact fits_some _
  · refine ⟨(mx a b, true), Ev.congr (fun k => ?_) (Ev.now _), ?_⟩
    · simp only [expr_two_does.f, value_f, Option.bind_some, mx_val ha hb]; rfl
    · simp only [madeS, h0, h1]; exact fits_some _
  · refine ⟨(tr (decide (a < b)), true), Ev.congr (fun k => ?_) (Ev.now _), ?_⟩
    · simp only [expr_two_does.f, value_f, truth_f, Option.bind_some, tr_val]; rfl
    · simp only [madeS, h0, h1]; exact fits_some _
  · refine ⟨(tr (decide (a ≤ b)), true), Ev.congr (fun k => ?_) (Ev.now _), ?_⟩
    · simp only [expr_two_does.f, value_f, truth_f, Option.bind_some, tr_val]; rfl
    · simp only [madeS, h0, h1]; exact fits_some _
  · refine ⟨(tr (a == b), true), Ev.congr (fun k => ?_) (Ev.now _), ?_⟩
    · simp only [expr_two_does.f, value_f, truth_f, Option.bind_some, tr_val]; rfl
    · simp only [madeS, h0, h1]; exact fits_some _
  · refine ⟨(tr (!(a == 0) && !(b == 0)), true), Ev.congr (fun k => ?_) (Ev.now _), ?_⟩
    · simp only [expr_two_does.f, value_f, truth_f, Option.bind_some, tr_val]
      by_cases c : a = 0
      · subst c; rfl
      · have e : (a == 0) = false := by simpa using c
        simp [c, e, bne]
    · simp only [madeS, h0, h1]; exact fits_some _
  · refine ⟨(tr (!(a == 0) || !(b == 0)), true), Ev.congr (fun k => ?_) (Ev.now _), ?_⟩
    · simp only [expr_two_does.f, value_f, truth_f, Option.bind_some, tr_val]
      by_cases c : a = 0
      · subst c; simp [bne]
      · have e : (a == 0) = false := by simpa using c
        simp [c, e, bne]
    · simp only [madeS, h0, h1]; exact fits_some _
theorem made_ev (op : Int) (l : List Int) (hv : ∀ i : Int, valueS (rd l i) = true) (h4 : 4 ≤ op) (h16 : op ≤ 16) (hl : (l.length : Int) = takesS op) : ∃ r, Ev (fun k => expr_made.f k op l) r ∧ Fits r (madeS op l) := by
  have hv0 := (valueS_abs _).1 (hv 0)
  unfold takesS at hl
  by_cases c4 : op = 4
  · subst c4
    refine ⟨(-(rd l 0), true), Ev.congr (fun k => ?_) (Ev.now _), fits_some _⟩
    simp only [expr_made.f, if_true]
    rw [if_pos (by simp at hl; omega), w64 (by omega) (by omega)]
  · by_cases c5 : op = 5
    · subst c5
      refine ⟨(tr (rd l 0 == 0), true), Ev.congr (fun k => ?_) (Ev.now _), fits_some _⟩
      simp only [expr_made.f]
      rw [if_neg (by omega), if_pos (by decide), if_pos (by simp at hl; omega)]
      simp only [truth_f, Option.bind_some]
    · by_cases c16 : op = 16
      · subst c16
        have h3 : (l.length : Int) = 3 := by simpa using hl
        refine ⟨((if rd l 0 = 0 then rd l 2 else rd l 1), true), Ev.congr (fun k => ?_) (Ev.now _), fits_some _⟩
        simp only [expr_made.f]
        rw [if_neg (by omega), if_neg (by omega), if_pos (by decide), if_pos (by omega)]
        by_cases c : rd l 0 = 0
        · rw [if_pos c, if_pos c, if_pos (by omega)]
        · rw [if_neg c, if_neg c, if_pos (by omega)]
      · have h2 : (l.length : Int) = 2 := by
          rw [if_neg (by omega), if_neg (by omega), if_pos (by omega)] at hl
          exact hl
        obtain ⟨r, hr, hf⟩ := does_ev (rd l 0) (rd l 1) op (hv 0) (hv 1) (by omega) (by omega) l rfl rfl
        refine ⟨r, ?_, hf⟩
        have : Ev (fun k => (expr_two_does.f k (rd l 0) (rd l 1) op).bind fun q => some (q.1, q.2)) r := Ev.bind hr (Ev.now r)
        refine Ev.congr (fun k => ?_) this
        simp only [expr_made.f]
        rw [if_neg c4, if_neg c5, if_neg c16, if_pos (by omega), if_pos (by omega)]
end Go.Proofs.Ythhnecbfcpmpbaa.Expr
