/-
  Plain: timers in the order in which they are due.
-/
import Derived.Test.YtmcojibgjibkdaaCrH
namespace Go.Vi.CYtmcojibgjibkdaa
open Go.Vi
set_option linter.unusedVariables false
set_option maxRecDepth 100000

def stopT (k : Int) (ts : List Tm) : List Tm := ts.filter fun t => decide (t.key ≠ k)
def insT (t : Tm) : List Tm → List Tm
  | [] => [t]
  | a :: r => if aheadB a t then a :: insT t r else t :: a :: r
def setT (k due : Int) (ts : List Tm) : List Tm := insT ⟨due, k⟩ (stopT k ts)
def goT (now : Int) : List Tm → List Int × List Tm
  | [] => ([], [])
  | t :: r => if t.due ≤ now then (t.key :: (goT now r).1, (goT now r).2) else ([], t :: r)
/-- in order, each key once -/
structure Srt (ts : List Tm) : Prop where
  so : ts.Pairwise fun a b => aheadB a b = true
  ke : ts.Pairwise fun a b => a.key ≠ b.key
theorem ahead_trans {a b c : Tm} (h : aheadB a b = true) (h' : aheadB b c = true) : aheadB a c = true := by
  rw [ahead_iff] at *; omega
theorem ahead_total {a b : Tm} (h : aheadB a b = false) (hk : a.key ≠ b.key) : aheadB b a = true := by
  rw [← Bool.not_eq_true, ahead_iff] at h
  rw [ahead_iff]; omega
theorem insT_perm {t : Tm} : ∀ {r : List Tm}, (insT t r).Perm (t :: r)
  | [] => List.Perm.refl _
  | a :: r => by
    unfold insT
    split
    · exact (List.Perm.cons a insT_perm).trans (List.Perm.swap t a r)
    · exact List.Perm.refl _
theorem Srt.stop {ts : List Tm} (h : Srt ts) (k : Int) : Srt (stopT k ts) := ⟨h.so.filter _, h.ke.filter _⟩
theorem Srt.tail {t : Tm} {ts : List Tm} (h : Srt (t :: ts)) : Srt ts := ⟨(List.pairwise_cons.1 h.so).2, (List.pairwise_cons.1 h.ke).2⟩
theorem Srt.head {t : Tm} {ts : List Tm} (h : Srt (t :: ts)) : ∀ z ∈ ts, le t z := fun z hz => le_of_ahead ((List.pairwise_cons.1 h.so).1 z hz)
theorem Srt.ins {t : Tm} : ∀ {r : List Tm}, Srt r → (∀ z ∈ r, z.key ≠ t.key) → Srt (insT t r)
  | [], _, _ => ⟨List.pairwise_singleton _ _, List.pairwise_singleton _ _⟩
  | a :: r, h, hk => by
    have hka := hk a (List.mem_cons_self ..)
    unfold insT
    by_cases ha : aheadB a t = true
    · rw [if_pos ha]
      have ih := Srt.ins h.tail fun z hz => hk z (List.mem_cons_of_mem _ hz)
      refine ⟨List.pairwise_cons.2 ⟨fun z hz => ?_, ih.so⟩, List.pairwise_cons.2 ⟨fun z hz => ?_, ih.ke⟩⟩
      · rcases List.mem_cons.1 (insT_perm.mem_iff.1 hz) with e | e
        · subst e; exact ha
        · exact (List.pairwise_cons.1 h.so).1 z e
      · rcases List.mem_cons.1 (insT_perm.mem_iff.1 hz) with e | e
        · subst e; exact hka
        · exact (List.pairwise_cons.1 h.ke).1 z e
    · rw [if_neg ha]
      have hta := ahead_total (Bool.not_eq_true _ ▸ ha : aheadB a t = false) hka
      refine ⟨List.pairwise_cons.2 ⟨fun z hz => ?_, h.so⟩, List.pairwise_cons.2 ⟨fun z hz => fun e => hk z hz e.symm, h.ke⟩⟩
      rcases List.mem_cons.1 hz with e | e
      · subst e; exact hta
      · exact ahead_trans hta ((List.pairwise_cons.1 h.so).1 z e)
theorem stopT_key {k : Int} {ts : List Tm} {z : Tm} (h : z ∈ stopT k ts) : z ∈ ts ∧ z.key ≠ k := by
  unfold stopT at h
  rw [List.mem_filter] at h
  exact ⟨h.1, of_decide_eq_true h.2⟩
theorem Srt.set {ts : List Tm} (h : Srt ts) (k d : Int) : Srt (setT k d ts) := (h.stop k).ins fun z hz => (stopT_key hz).2
theorem Srt.go {now : Int} : ∀ {ts : List Tm}, Srt ts → Srt (goT now ts).2
  | [], h => h
  | t :: r, h => by
    unfold goT
    split
    · exact Srt.go h.tail
    · exact h
theorem stopT_len {k : Int} {ts : List Tm} : (stopT k ts).length ≤ ts.length := List.length_filter_le _ _
theorem setT_len {k d : Int} {ts : List Tm} : (setT k d ts).length ≤ ts.length + 1 := by
  unfold setT
  rw [insT_perm.length_eq, List.length_cons]
  have := stopT_len (k := k) (ts := ts); omega
theorem goT_len {now : Int} : ∀ {ts : List Tm}, (goT now ts).1.length + (goT now ts).2.length = ts.length
  | [] => rfl
  | t :: r => by
    have ih := goT_len (now := now) (ts := r)
    unfold goT
    split
    · simp only [List.length_cons]; omega
    · simp
theorem stop_none {k : Int} {ts : List Tm} (h : ∀ z ∈ ts, z.key ≠ k) : stopT k ts = ts := by
  unfold stopT
  exact List.filter_eq_self.2 fun z hz => decide_eq_true (h z hz)
/-- a list without the one timer of a key -/
theorem stop_perm {l' ts : List Tm} {t : Tm} (h : (t :: l').Perm ts) (hs : Srt ts) : l'.Perm (stopT t.key ts) := by
  have hk : (t :: l').Pairwise fun a b => a.key ≠ b.key := (List.Perm.pairwise_iff (fun {a b} h => Ne.symm h) h).2 hs.ke
  have h1 := h.filter (fun z => decide (z.key ≠ t.key))
  have h2 : (t :: l').filter (fun z => decide (z.key ≠ t.key)) = l' := by
    rw [List.filter_cons_of_neg (by simp)]
    exact List.filter_eq_self.2 fun z hz => decide_eq_true (Ne.symm ((List.pairwise_cons.1 hk).1 z hz))
  rw [h2] at h1
  exact h1
theorem set_erase {l : List Tm} {i : Nat} (hi : i < l.length) (x : Tm) : (l.set i x).Perm (x :: l.eraseIdx i) := by
  rw [List.set_eq_take_append_cons_drop, if_pos hi, List.eraseIdx_eq_take_drop_succ]
  exact List.perm_middle
theorem erase_perm {l : List Tm} {i : Nat} (hi : i < l.length) : (l[i] :: l.eraseIdx i).Perm l := by
  have h := (set_erase hi l[i]).symm
  rw [List.set_getElem_self] at h
  exact h
theorem set_perm {l ts : List Tm} {i : Nat} {t t' : Tm} (h : l.Perm ts) (hs : Srt ts) (ht : l[i]? = some t) (hk : t'.key = t.key) : (l.set i t').Perm (insT t' (stopT t.key ts)) := by
  obtain ⟨hi, rfl⟩ := List.getElem?_eq_some_iff.1 ht
  have h1 : (l[i] :: l.eraseIdx i).Perm l := erase_perm hi
  have h2 : (l.set i t').Perm (t' :: l.eraseIdx i) := set_erase hi t'
  exact h2.trans (((stop_perm (h1.trans h) hs).cons t').trans insT_perm.symm)
end Go.Vi.CYtmcojibgjibkdaa
