/-
  Plain: heaps of timers.
-/
import Derived.Test.YtmcojibgjibkdaaCrC
namespace Go.Vi.CYtmcojibgjibkdaa
open Go.Vi
set_option linter.unusedVariables false
set_option maxRecDepth 100000

/-- b is not ahead of a -/
def le (a b : Tm) : Prop := aheadB b a = false
theorem ahead_iff {a b : Tm} : aheadB a b = true ↔ a.due < b.due ∨ (a.due = b.due ∧ a.key < b.key) := by
  simp only [aheadB, Bool.or_eq_true, Bool.and_eq_true, decide_eq_true_eq]
theorem le_iff {a b : Tm} : le a b ↔ (a.due < b.due ∨ (a.due = b.due ∧ a.key ≤ b.key)) := by
  unfold le
  rw [← Bool.not_eq_true, ahead_iff]; omega
theorem le_refl (a : Tm) : le a a := le_iff.2 (by omega)
theorem le_trans {a b c : Tm} (h : le a b) (h' : le b c) : le a c := by
  rw [le_iff] at *; omega
theorem le_of_ahead {a b : Tm} (h : aheadB a b = true) : le a b := by
  rw [ahead_iff] at h; rw [le_iff]; omega

def par (k : Nat) : Nat := (k - 1) / 2
/-- of every place below n but x the one above it is no later -/
def HeapX (l : List Tm) (n : Nat) (ex : Nat → Prop) : Prop := ∀ k a b, 0 < k → k < n → ¬ ex k → l[par k]? = some a → l[k]? = some b → le a b
def HeapP (l : List Tm) (n : Nat) : Prop := HeapX l n fun _ => False
/-- the one above i is no later than those below i -/
def Over (l : List Tm) (n i : Nat) : Prop := ∀ k a b, 0 < i → k < n → 0 < k → par k = i → l[par i]? = some a → l[k]? = some b → le a b
def HeapUp (l : List Tm) (n j : Nat) : Prop := HeapX l n (fun k => k = j) ∧ Over l n j
def HeapDn (l : List Tm) (n i : Nat) : Prop := HeapX l n (fun k => par k = i) ∧ Over l n i
def HeapAny (l : List Tm) (n i : Nat) : Prop := HeapX l n (fun k => k = i ∨ par k = i) ∧ Over l n i

theorem swap_at {l : List Tm} {i j : Nat} {a b : Tm} (ha : l[i]? = some a) (hb : l[j]? = some b) (q : Nat) : ((l.set i b).set j a)[q]? = if j = q then some a else if i = q then some b else l[q]? := by
  have hli := (List.getElem?_eq_some_iff.1 ha).1
  have hlj := (List.getElem?_eq_some_iff.1 hb).1
  rw [List.getElem?_set, List.getElem?_set, List.length_set]
  by_cases h1 : j = q
  · subst h1; simp [hlj]
  · simp only [if_neg h1]
    by_cases h2 : i = q
    · subst h2; simp [hli]
    · simp [if_neg h2]
theorem swap_perm {l : List Tm} {i j : Nat} {a b : Tm} (ha : l[i]? = some a) (hb : l[j]? = some b) : ((l.set i b).set j a).Perm l := by
  obtain ⟨hi, rfl⟩ := List.getElem?_eq_some_iff.1 ha
  obtain ⟨hj, rfl⟩ := List.getElem?_eq_some_iff.1 hb
  exact List.set_set_perm hi hj
theorem up_step {l : List Tm} {n j : Nat} {a b : Tm} (h : HeapUp l n j) (hj : 0 < j) (hn : j < n) (hn2 : n ≤ l.length) (ha : l[par j]? = some a) (hb : l[j]? = some b) (hab : aheadB b a = true) : HeapUp ((l.set (par j) b).set j a) n (par j) := by
  have hp : par j < j := by unfold par; omega
  have hle := le_of_ahead hab
  refine ⟨fun k c d h1 h2 h3 hc hd => ?_, fun k c d h1 h2 h3 h4 hc hd => ?_⟩
  · rw [swap_at ha hb] at hc hd
    have k1 : ¬ par j = k := fun e => h3 e.symm
    rw [if_neg k1] at hd
    by_cases c1 : j = k
    · subst c1
      rw [if_pos rfl] at hd; cases hd
      rw [if_neg (by omega), if_pos rfl] at hc; cases hc
      exact hle
    · rw [if_neg c1] at hd
      by_cases c2 : j = par k
      · rw [if_pos c2] at hc; cases hc
        exact h.2 k a d hj h2 h1 c2.symm ha hd
      · rw [if_neg c2] at hc
        by_cases c3 : par j = par k
        · rw [if_pos c3] at hc; cases hc
          refine le_trans hle (h.1 k a d h1 h2 (fun e => c1 e.symm) (by rw [← c3]; exact ha) hd)
        · rw [if_neg c3] at hc
          exact h.1 k c d h1 h2 (fun e => c1 e.symm) hc hd
  · have p1 : par (par j) < par j := by unfold par at h1 ⊢; omega
    rw [swap_at ha hb, if_neg (by omega), if_neg (by omega)] at hc
    have q1 : le c a := h.1 (par j) c a h1 (by omega) (by omega) hc ha
    rw [swap_at ha hb] at hd
    by_cases c1 : j = k
    · rw [if_pos c1] at hd; cases hd; exact q1
    · rw [if_neg c1] at hd
      have : par j ≠ k := by intro e; rw [e] at h4; unfold par at h4; omega
      rw [if_neg this] at hd
      exact le_trans q1 (h.1 k a d h3 h2 (fun e => c1 e.symm) (by rw [h4]; exact ha) hd)
theorem up_end0 {l : List Tm} {n : Nat} (h : HeapUp l n 0) : HeapP l n := fun k a b h1 h2 _ ha hb => h.1 k a b h1 h2 (by omega) ha hb
theorem up_end {l : List Tm} {n j : Nat} {a b : Tm} (h : HeapUp l n j) (ha : l[par j]? = some a) (hb : l[j]? = some b) (hab : aheadB b a = false) : HeapP l n := by
  intro k c d h1 h2 _ hc hd
  by_cases hk : k = j
  · subst hk; rw [ha] at hc; rw [hb] at hd; cases hc; cases hd; exact hab
  · exact h.1 k c d h1 h2 hk hc hd
theorem any_of_dn {l : List Tm} {n i : Nat} (h : HeapDn l n i) : HeapAny l n i := ⟨fun k a b h1 h2 h3 => h.1 k a b h1 h2 fun e => h3 (.inr e), h.2⟩
theorem any_of_heap {l : List Tm} {n i : Nat} (h : HeapP l n) (hn : n ≤ l.length) (x : Tm) : HeapAny (l.set i x) n i := by
  have hs : ∀ q : Nat, q ≠ i → (l.set i x)[q]? = l[q]? := fun q hq => by rw [List.getElem?_set, if_neg (fun e => hq e.symm)]
  refine ⟨fun k a b h1 h2 h3 ha hb => ?_, fun k a b h1 h2 h3 h4 ha hb => ?_⟩
  · rw [hs _ (fun e => h3 (.inr e))] at ha
    rw [hs _ (fun e => h3 (.inl e))] at hb
    exact h k a b h1 h2 (fun e => e) ha hb
  · have hpi : par i < i := by unfold par; omega
    have hik : i < k := by rw [← h4]; unfold par; omega
    rw [hs _ (by omega)] at ha hb
    obtain ⟨c, hc⟩ := at_some (show i < l.length by omega)
    exact le_trans (h i a c h1 (by omega) (fun e => e) ha hc) (h k c b (by omega) h2 (fun e => e) (by rw [h4]; exact hc) hb)
/-- a step down: c is the first of those below i -/
theorem dn_step {l : List Tm} {n i j : Nat} {a c : Tm} (h : HeapAny l n i) (hj : par j = i) (hj0 : 0 < j) (hn : j < n) (hn2 : n ≤ l.length) (ha : l[i]? = some a) (hc : l[j]? = some c) (hca : aheadB c a = true) (hmin : ∀ k b, 0 < k → k < n → par k = i → l[k]? = some b → le c b) : HeapDn ((l.set i c).set j a) n j := by
  have hij : i < j := by rw [← hj]; unfold par; omega
  have hle := le_of_ahead hca
  refine ⟨fun k x y h1 h2 h3 hx hy => ?_, fun k x y h1 h2 h3 h4 hx hy => ?_⟩
  · rw [swap_at ha hc, if_neg (fun e => h3 e.symm)] at hx
    rw [swap_at ha hc] at hy
    by_cases c1 : i = par k
    · rw [if_pos c1] at hx; cases hx
      by_cases c2 : j = k
      · rw [if_pos c2] at hy; cases hy; exact hle
      · have : i ≠ k := by intro e; rw [e] at c1; unfold par at c1; omega
        rw [if_neg c2, if_neg this] at hy
        exact hmin k y h1 h2 c1.symm hy
    · rw [if_neg c1] at hx
      have : j ≠ k := by intro e; rw [← e, hj] at c1; exact c1 rfl
      rw [if_neg this] at hy
      by_cases c2 : i = k
      · rw [if_pos c2] at hy; cases hy
        subst c2
        exact h.2 j x c h1 hn hj0 hj hx hc
      · rw [if_neg c2] at hy
        exact h.1 k x y h1 h2 (fun e => e.elim (fun e => c2 e.symm) (fun e => c1 e.symm)) hx hy
  · rw [hj, swap_at ha hc, if_neg (by omega), if_pos rfl] at hx; cases hx
    have hjk : j < k := by rw [← h4]; unfold par; omega
    rw [swap_at ha hc, if_neg (by omega), if_neg (by omega)] at hy
    exact h.1 k c y h3 h2 (fun e => e.elim (fun e => by omega) (fun e => by rw [h4] at e; omega)) (by rw [h4]; exact hc) hy
/-- nobody below i is ahead of it -/
theorem dn_end {l : List Tm} {n i : Nat} {a : Tm} (h : HeapDn l n i) (ha : l[i]? = some a) (hmin : ∀ k b, 0 < k → k < n → par k = i → l[k]? = some b → le a b) : HeapP l n := by
  intro k x y h1 h2 _ hx hy
  by_cases hk : par k = i
  · rw [hk, ha] at hx; cases hx; exact hmin k y h1 h2 hk hy
  · exact h.1 k x y h1 h2 hk hx hy
theorem any_end {l : List Tm} {n i : Nat} {a : Tm} (h : HeapAny l n i) (ha : l[i]? = some a) (hmin : ∀ k b, 0 < k → k < n → par k = i → l[k]? = some b → le a b) : HeapUp l n i := by
  refine ⟨fun k x y h1 h2 h3 hx hy => ?_, h.2⟩
  by_cases hk : par k = i
  · rw [hk, ha] at hx; cases hx; exact hmin k y h1 h2 hk hy
  · exact h.1 k x y h1 h2 (fun e => e.elim h3 hk) hx hy
theorem heap_first {l : List Tm} {n : Nat} (h : HeapP l n) {a : Tm} (ha : l[0]? = some a) (hn : n ≤ l.length) : ∀ (k : Nat) b, k < n → l[k]? = some b → le a b := by
  intro k
  induction k using Nat.strongRecOn with
  | _ k ih =>
    intro b hk hb
    rcases Nat.eq_zero_or_pos k with h0 | h0
    · subst h0; rw [ha] at hb; cases hb; exact le_refl _
    · have hp : par k < k := by unfold par; omega
      obtain ⟨c, hc⟩ := at_some (show par k < l.length by omega)
      exact le_trans (ih (par k) hp c (by omega) hc) (h k c b h0 hk (fun e => e) hc hb)
theorem heap_take {l l' : List Tm} {n : Nat} (h : HeapP l n) (he : ∀ k, k < n → l'[k]? = l[k]?) : HeapP l' n := by
  intro k a b h1 h2 h3 ha hb
  rw [he _ (by unfold par; omega)] at ha
  rw [he _ h2] at hb
  exact h k a b h1 h2 h3 ha hb
theorem any_take {l l' : List Tm} {n i : Nat} (h : HeapAny l n i) (he : ∀ k, k < n → l'[k]? = l[k]?) : HeapAny l' n i := by
  refine ⟨fun k a b h1 h2 h3 ha hb => ?_, fun k a b h1 h2 h3 h4 ha hb => ?_⟩
  · rw [he _ (by unfold par; omega)] at ha
    rw [he _ h2] at hb
    exact h.1 k a b h1 h2 h3 ha hb
  · rw [he _ (by unfold par at h4 ⊢; omega)] at ha
    rw [he _ h2] at hb
    exact h.2 k a b h1 h2 h3 h4 ha hb
end Go.Vi.CYtmcojibgjibkdaa
