/-
  Plain: what becomes of one key's timer.
-/
import Derived.Test.YtmcojibgjibkdaaCrM
namespace Go.Vi.CYtmcojibgjibkdaa
open Go.Vi
set_option linter.unusedVariables false
set_option maxRecDepth 100000

theorem mem_set {k d : Int} {ts : List Tm} {z : Tm} : z ∈ setT k d ts ↔ z = ⟨d, k⟩ ∨ (z ∈ ts ∧ z.key ≠ k) := by
  unfold setT
  rw [insT_perm.mem_iff, List.mem_cons]
  unfold stopT
  rw [List.mem_filter, decide_eq_true_iff]
theorem mem_stop {k : Int} {ts : List Tm} {z : Tm} : z ∈ stopT k ts ↔ z ∈ ts ∧ z.key ≠ k := by
  unfold stopT
  rw [List.mem_filter, decide_eq_true_iff]
theorem goT_filter {now : Int} : ∀ {ts : List Tm}, Srt ts → (goT now ts).1 = (ts.filter fun t => decide (t.due ≤ now)).map (·.key) ∧ (goT now ts).2 = ts.filter fun t => decide (¬ t.due ≤ now)
  | [], _ => ⟨rfl, rfl⟩
  | t :: r, h => by
    obtain ⟨h1, h2⟩ := goT_filter (now := now) h.tail
    unfold goT
    by_cases ht : t.due ≤ now
    · rw [if_pos ht, List.filter_cons_of_pos (by simp [ht]), List.filter_cons_of_neg (by simp [ht])]
      exact ⟨by rw [h1]; rfl, h2⟩
    · rw [if_neg ht]
      have hd : ∀ z ∈ t :: r, ¬ z.due ≤ now := fun z hz => by
        rcases List.mem_cons.1 hz with e | e
        · subst e; exact ht
        · have := h.head z e
          rw [le_iff] at this; omega
      refine ⟨?_, ?_⟩
      · rw [List.filter_eq_nil_iff.2 (fun z hz => by simp [hd z hz])]; rfl
      · rw [List.filter_eq_self.2 (fun z hz => by simp only [decide_eq_true_iff]; exact hd z hz)]
theorem Srt.uniq {ts : List Tm} (h : Srt ts) {a b : Tm} (ha : a ∈ ts) (hb : b ∈ ts) (hk : a.key = b.key) : a = b := by
  obtain ⟨i, hi⟩ := List.getElem?_of_mem ha
  obtain ⟨j, hj⟩ := List.getElem?_of_mem hb
  obtain ⟨hi1, rfl⟩ := List.getElem?_eq_some_iff.1 hi
  obtain ⟨hj1, rfl⟩ := List.getElem?_eq_some_iff.1 hj
  rcases Nat.lt_trichotomy i j with h3 | h3 | h3
  · exact absurd hk (List.pairwise_iff_getElem.1 h.ke i j hi1 hj1 h3)
  · subst h3; rfl
  · exact absurd hk.symm (List.pairwise_iff_getElem.1 h.ke j i hj1 hi1 h3)
/-- due tells of a key's timer: -1: there is none -/
def Dq (key due : Int) (ts : List Tm) : Prop := (due = -1 ∧ ∀ z ∈ ts, z.key ≠ key) ∨ (0 ≤ due ∧ due ≤ 1099511627776 ∧ ⟨due, key⟩ ∈ ts)
theorem Dq.set {key due d : Int} {ts : List Tm} (hd : 0 ≤ d ∧ d ≤ 1099511627776) : Dq key d (setT key d ts) := .inr ⟨hd.1, hd.2, mem_set.2 (.inl rfl)⟩
theorem Dq.setO {key due d k : Int} {ts : List Tm} (h : Dq key due ts) (hk : ¬ k = key) : Dq key due (setT k d ts) := by
  rcases h with ⟨h1, h2⟩ | ⟨h1, h2, h3⟩
  · refine .inl ⟨h1, fun z hz => ?_⟩
    rcases mem_set.1 hz with e | ⟨e, _⟩
    · subst e; exact hk
    · exact h2 z e
  · exact .inr ⟨h1, h2, mem_set.2 (.inr ⟨h3, fun e => hk e.symm⟩)⟩
theorem Dq.stop {key : Int} {ts : List Tm} : Dq key (-1) (stopT key ts) := .inl ⟨rfl, fun z hz => (mem_stop.1 hz).2⟩
theorem Dq.stopO {key due k : Int} {ts : List Tm} (h : Dq key due ts) (hk : ¬ k = key) : Dq key due (stopT k ts) := by
  rcases h with ⟨h1, h2⟩ | ⟨h1, h2, h3⟩
  · exact .inl ⟨h1, fun z hz => h2 z (mem_stop.1 hz).1⟩
  · exact .inr ⟨h1, h2, mem_stop.2 ⟨h3, fun e => hk e.symm⟩⟩
theorem nodup_count {a : Int} : ∀ {l : List Int}, l.Nodup → a ∈ l → l.count a = 1
  | [], _, h => by cases h
  | b :: r, h, ha => by
    obtain ⟨h1, h2⟩ := List.nodup_cons.1 h
    rw [List.count_cons]
    rcases List.mem_cons.1 ha with e | e
    · subst e
      rw [List.count_eq_zero.2 h1, if_pos (by simp)]
    · rw [nodup_count h2 e, if_neg]
      intro hb
      have hb := eq_of_beq hb
      subst hb
      exact h1 e
theorem Dq.go {key due now : Int} {ts : List Tm} (h : Dq key due ts) (hs : Srt ts) :
    (due ≥ 0 → due ≤ now → (goT now ts).1.count key = 1 ∧ Dq key (-1) (goT now ts).2) ∧ (¬ (due ≥ 0 ∧ due ≤ now) → (goT now ts).1.count key = 0 ∧ Dq key due (goT now ts).2) := by
  obtain ⟨g1, g2⟩ := goT_filter (now := now) hs
  have hnd : (goT now ts).1.Nodup := by
    rw [g1]
    show List.Pairwise _ _
    rw [List.pairwise_map]
    exact hs.ke.filter _
  have hm1 : ∀ k, k ∈ (goT now ts).1 ↔ ∃ z ∈ ts, z.due ≤ now ∧ z.key = k := fun k => by
    rw [g1, List.mem_map]
    simp only [List.mem_filter, decide_eq_true_iff, and_assoc]
  have hm2 : ∀ z, z ∈ (goT now ts).2 ↔ z ∈ ts ∧ ¬ z.due ≤ now := fun z => by
    rw [g2, List.mem_filter, decide_eq_true_iff]
  rcases h with ⟨rfl, h2⟩ | ⟨h1, h2, h3⟩
  · refine ⟨fun h => by omega, fun _ => ⟨List.count_eq_zero.2 fun hh => ?_, .inl ⟨rfl, fun z hz => h2 z ((hm2 z).1 hz).1⟩⟩⟩
    obtain ⟨z, hz, _, hk⟩ := (hm1 key).1 hh
    exact h2 z hz hk
  · refine ⟨fun _ hn => ⟨nodup_count hnd ((hm1 key).2 ⟨_, h3, hn, rfl⟩), .inl ⟨rfl, fun z hz hk => ?_⟩⟩, fun hn => ⟨List.count_eq_zero.2 fun hh => ?_, .inr ⟨h1, h2, (hm2 _).2 ⟨h3, fun e => hn ⟨h1, e⟩⟩⟩⟩⟩
    · obtain ⟨q1, q2⟩ := (hm2 z).1 hz
      have := hs.uniq q1 h3 hk
      subst this; exact q2 hn
    · obtain ⟨z, hz, q1, hk⟩ := (hm1 key).1 hh
      have := hs.uniq hz h3 hk
      subst this; exact hn ⟨h1, q1⟩
theorem count_step {l : List Int} {k : Nat} {z key : Int} (hz : l[k]? = some z) : (l.take (k + 1)).count key = (l.take k).count key + (if z = key then 1 else 0) := by
  rw [List.take_add_one, hz, List.count_append]
  simp only [Option.toList_some, List.count_singleton, beq_iff_eq]
end Go.Vi.CYtmcojibgjibkdaa
