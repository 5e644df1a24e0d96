/-
  container/heap over a row of timers: Fix, Push, Pop, Remove.
-/
import Derived.Test.YtmcojibgjibkdaaCrG
namespace Go.Vi.CYtmcojibgjibkdaa
open Go.Vi Go.Proofs Go.Proofs.Ytmcojibgjibkdaa
set_option linter.unusedVariables false
set_option maxHeartbeats 8000000
set_option maxRecDepth 100000
set_option linter.unusedSimpArgs false

theorem heap_len {l l' : List Tm} {n : Nat} (h : HeapP l n) (e : l'.length = n) (he : l' = l) : HeapP l' l'.length := by subst he; rw [e]; exact h
theorem r_hFix {H : Hp} {o ol om cl i : Nat} {l tl : List Tm} {ms : List En} (h : RowAt H o ol om l tl ms cl) (ha : HeapAny l l.length i) (hi : i < l.length) (hlen : l.length ≤ 1000000) :
    ∃ H' l' ms', Runs Try.prog pol 20 [.val (hV o), .val (iv i)] H ([], [], H') ∧ RowAt H' o ol om l' tl ms' cl ∧ Same H H' ol om ∧ l'.Perm l ∧ HeapP l' l'.length := by
  have L := r_Len o H h.row
  obtain ⟨H1, l1, m1, r, D, hR1, hS1, hP1, _, ht, hf⟩ := r_down h ha hi (Nat.le_refl _) (by omega)
  have hl1 := hP1.length_eq
  cases r with
  | true =>
    refine ⟨H1, l1, m1, ?_, hR1, hS1, hP1, by rw [hl1]; exact ht rfl⟩
    refine Runs.toldH (fn := Try.f20) (n := 13) [(0, .val (hV o)), (1, .val (iv i))] [(0, .gone 0), (1, .gone 0)] rfl Try.func20 rfl rfl (by kernel_rfl) rfl (by repeat' constructor) (by repeat' constructor) ?_
    repeat' (first
      | intro _
      | refine Ws ?_
      | (refine Wt ?_ ?_ <;> intro _ <;> try (exfalso; omega))
      | (refine Wu ?_ ?_ <;> intro _)
      | refine Wo.invI L ?_
      | refine Wo.callI D ?_
      | refine Wl.normalH rfl rfl
      | refine Wv ?_
      | refine Wz ?_
      | fail)
    rfl
  | false =>
    obtain ⟨H2, l2, m2, U, hR2, hS2, hP2, _, hh⟩ := r_up hR1 (hf rfl) hi (by omega) (by omega)
    have hl2 := hP2.length_eq
    refine ⟨H2, l2, m2, ?_, hR2, hS1.trans hS2, hP2.trans hP1, by rw [hl2, hl1]; exact hh⟩
    refine Runs.toldH (fn := Try.f20) (n := 13) [(0, .val (hV o)), (1, .val (iv i))] [(0, .gone 0), (1, .gone 0)] rfl Try.func20 rfl rfl (by kernel_rfl) rfl (by repeat' constructor) (by repeat' constructor) ?_
    repeat' (first
      | intro _
      | refine Ws ?_
      | (refine Wt ?_ ?_ <;> intro _ <;> try (exfalso; omega))
      | (refine Wu ?_ ?_ <;> intro _)
      | refine Wo.invI L ?_
      | refine Wo.callI D ?_
      | refine Wo.callI U ?_
      | refine Wl.normalH rfl rfl
      | refine Wv ?_
      | refine Wz ?_
      | fail)
    rfl
/-- a row that holds these timers, in a heap -/
def RowS (H : Hp) (o : Nat) (ts : List Tm) (S : List Nat) : Prop :=
  (ts = [] ∧ ∃ om, Row0 H o om ∧ S = [o, om]) ∨ (∃ ol om l tl ms cl, RowAt H o ol om l tl ms cl ∧ HeapP l l.length ∧ l.Perm ts ∧ S = [o, ol, om])
theorem push_up {l : List Tm} (h : HeapP l l.length) (t : Tm) : HeapUp (l ++ [t]) (l.length + 1) l.length := by
  refine ⟨fun k a b h1 h2 h3 ha hb => ?_, fun k a b h1 h2 h3 h4 ha hb => ?_⟩
  · rw [List.getElem?_append_left (by unfold par; omega)] at ha
    rw [List.getElem?_append_left (by omega)] at hb
    exact h k a b h1 (by omega) (fun e => e) ha hb
  · unfold par at h4; omega
theorem r_hPush {H : Hp} {o : Nat} {ts : List Tm} {S : List Nat} {t : Tm} (h : RowS H o ts S) (hk : ∀ z ∈ ts, z.key ≠ t.key) (hlen : ts.length < 1000000) :
    ∃ H' S', Runs Try.prog pol 21 [.val (hV o), .val (.iface 50 (tmV t))] H ([], [], H') ∧ RowS H' o (t :: ts) S' ∧ Step H H' S S' := by
  rcases h with ⟨rfl, om, h, rfl⟩ | ⟨ol, om, l, tl, ms, cl, h, hh, hp, rfl⟩
  · obtain ⟨H1, m1, P1, hR1, hS1⟩ := r_Push0 (t := t) h
    have L := r_Len o H1 hR1.row
    obtain ⟨H2, l2, m2, U, hR2, hS2, hP2, _, hh⟩ := r_up hR1 (push_up (l := []) (fun k a b h1 h2 => by simp at h2) t) (by simp) (by simp) (by simp)
    have hl2 := hP2.length_eq
    refine ⟨H2, _, ?_, .inr ⟨_, om, l2, [], m2, 1, hR2, by rw [hl2]; exact hh, hP2, rfl⟩, hS1.trans hS2.step⟩
    have hs : ((([t] : List Tm).length : Nat) : Int) - 1 = ((([] : List Tm).length : Nat) : Int) := rfl
    refine Runs.toldH (fn := Try.f21) (n := 12) [(0, .val (hV o)), (1, .val (.iface 50 (tmV t)))] [(0, .gone 0), (1, .gone 0)] rfl Try.func21 rfl rfl (by kernel_rfl) rfl (by repeat' constructor) (by repeat' constructor) ?_
    repeat' (first
      | intro _
      | refine Wo.subTo hs ?_
      | refine Ws ?_
      | (refine Wt ?_ ?_ <;> intro _ <;> try (exfalso; omega))
      | (refine Wu ?_ ?_ <;> intro _)
      | refine Wo.invI P1 ?_
      | refine Wo.invI L ?_
      | refine Wo.callI U ?_
      | refine Wl.normalH rfl rfl
      | refine Wv ?_
      | refine Wz ?_
      | fail)
    rfl
  · have hl := hp.length_eq
    obtain ⟨H1, m1, P1, hR1, hS1⟩ := r_Push (t := t) h (fun z hz => hk z (hp.mem_iff.1 hz)) (by omega)
    have L := r_Len o H1 hR1.row
    obtain ⟨H2, l2, m2, U, hR2, hS2, hP2, _, hh2⟩ := r_up hR1 (push_up hh t) (by omega) (by simp) (by simp; omega)
    have hl2 := hP2.length_eq
    have hl3 : (l ++ [t]).length = l.length + 1 := by simp
    refine ⟨H2, _, ?_, .inr ⟨_, om, l2, [], m2, cl + 1, hR2, by rw [hl2, hl3]; exact hh2, hP2.trans ((List.perm_append_singleton t l).trans (hp.cons t)), rfl⟩, hS1.trans hS2.step⟩
    have hs : (((l ++ [t]).length : Nat) : Int) - 1 = ((l.length : Nat) : Int) := by rw [hl3]; omega
    refine Runs.toldH (fn := Try.f21) (n := 12) [(0, .val (hV o)), (1, .val (.iface 50 (tmV t)))] [(0, .gone 0), (1, .gone 0)] rfl Try.func21 rfl rfl (by kernel_rfl) rfl (by repeat' constructor) (by repeat' constructor) ?_
    repeat' (first
      | intro _
      | refine Wo.subTo hs ?_
      | refine Ws ?_
      | (refine Wt ?_ ?_ <;> intro _ <;> try (exfalso; omega))
      | (refine Wu ?_ ?_ <;> intro _)
      | refine Wo.invI P1 ?_
      | refine Wo.invI L ?_
      | refine Wo.callI U ?_
      | refine Wl.normalH rfl rfl
      | refine Wv ?_
      | refine Wz ?_
      | fail)
    rfl
theorem le_antisymm {a b : Tm} (h : le a b) (h' : le b a) : a = b := by
  rw [le_iff] at h h'
  cases a; cases b
  simp only [Tm.mk.injEq] at *
  omega
theorem split_last {l : List Tm} {n : Nat} {t : Tm} (hl : l.length = n + 1) (ht : l[n]? = some t) : ∃ l', l = l' ++ [t] ∧ l'.length = n := by
  refine ⟨l.take n, ?_, by rw [List.length_take]; omega⟩
  apply List.ext_getElem?
  intro k
  rcases Nat.lt_trichotomy k n with h | h | h
  · rw [List.getElem?_append_left (by rw [List.length_take]; omega), List.getElem?_take, if_pos h]
  · subst h
    rw [List.getElem?_append_right (by rw [List.length_take]; omega), ht, List.length_take, Nat.min_eq_left (by omega), Nat.sub_self]; rfl
  · rw [List.getElem?_eq_none (by omega), List.getElem?_eq_none (by rw [List.length_append, List.length_take]; simp; omega)]
theorem r_hPop {H : Hp} {o : Nat} {ts : List Tm} {S : List Nat} {t : Tm} (h : RowS H o (t :: ts) S) (hk : ∀ z ∈ ts, le t z) (hlen : ts.length < 1000000) :
    ∃ H', Runs Try.prog pol 23 [.val (hV o)] H ([.val (.iface 50 (tmV t))], [], H') ∧ RowS H' o ts S ∧ Step H H' S S := by
  rcases h with ⟨h0, _⟩ | ⟨ol, om, l, tl, ms, cl, h, hh, hp, rfl⟩
  · cases h0
  have hl : l.length = ts.length + 1 := hp.length_eq
  obtain ⟨a, ha⟩ := at_some (show 0 < l.length by omega)
  obtain ⟨b, hb⟩ := at_some (show ts.length < l.length by omega)
  have hat : a = t := by
    have h1 : t ∈ l := hp.mem_iff.2 (List.mem_cons_self ..)
    obtain ⟨k, hk1⟩ := List.getElem?_of_mem h1
    refine le_antisymm (heap_first hh ha (Nat.le_refl _) k t (List.getElem?_eq_some_iff.1 hk1).1 hk1) ?_
    rcases List.mem_cons.1 (hp.mem_iff.1 (List.mem_of_getElem? ha)) with e | e
    · rw [e]; exact le_refl _
    · exact hk a e
  subst hat
  have L := r_Len o H h.row
  obtain ⟨H1, m1, S1, hR1, hS1⟩ := r_Swap h ha hb
  have hl1 : ((l.set 0 b).set ts.length a).length = l.length := by simp
  have hA : HeapAny ((l.set 0 b).set ts.length a) ts.length 0 := by
    refine any_take (any_of_heap (fun k x y h1 h2 h3 hx hy => hh k x y h1 (by omega) h3 hx hy) (by omega) b) fun k hk => ?_
    rw [List.getElem?_set, if_neg (by omega)]
  obtain ⟨H2, l2, m2, r, D, hR2, hS2, hP2, hk2, ht2, hf2⟩ := r_down hR1 hA (by omega) (by omega) (by omega)
  have hl2 := hP2.length_eq
  have hlast : l2[ts.length]? = some a := by rw [hk2 _ (Nat.le_refl _), swap_at ha hb, if_pos rfl]
  obtain ⟨l3, rfl, hl3⟩ := split_last (by omega) hlast
  obtain ⟨H3, m3, P3, hR3, hS3⟩ := r_Pop hR2 (by omega)
  have hh3 : HeapP (l3 ++ [a]) ts.length := by
    cases r with
    | true => exact ht2 rfl
    | false => exact up_end0 (hf2 rfl)
  refine ⟨H3, ?_, .inr ⟨ol, om, l3, _, m3, cl, hR3, ?_, ?_, rfl⟩, (hS1.step.trans hS2.step).trans hS3⟩
  · have hs : ((l.length : Nat) : Int) - 1 = ((ts.length : Nat) : Int) := by omega
    refine Runs.toldH (fn := Try.f23) (n := 15) [(0, .val (hV o))] [(0, .gone 0)] rfl Try.func23 rfl rfl (by kernel_rfl) rfl (by repeat' constructor) (by repeat' constructor) ?_
    repeat' (first
      | intro _
      | refine Wo.subTo hs ?_
      | refine Ws ?_
      | (refine Wt ?_ ?_ <;> intro _ <;> try (exfalso; omega))
      | (refine Wu ?_ ?_ <;> intro _)
      | refine Wo.invI L ?_
      | refine Wo.invI S1 ?_
      | refine Wo.callI D ?_
      | refine Wo.invI P3 ?_
      | refine Wl.retH rfl rfl
      | refine Wv ?_
      | refine Wz ?_
      | fail)
    rfl
  · rw [hl3]
    exact heap_take hh3 fun k hk => by rw [List.getElem?_append_left (by omega)]
  · have h1 : (l3 ++ [a]).Perm (a :: ts) := hP2.trans ((swap_perm ha hb).trans hp)
    exact (List.perm_cons a).1 ((List.perm_append_singleton a l3).symm.trans h1)
theorem r_hRemove {H : Hp} {o ol om cl i : Nat} {l tl : List Tm} {ms : List En} {t : Tm} (h : RowAt H o ol om l tl ms cl) (hh : HeapP l l.length) (ha : l[i]? = some t) (hlen : l.length ≤ 1000000) :
    ∃ H' l' tl' ms', Runs Try.prog pol 22 [.val (hV o), .val (iv i)] H ([.val (.iface 50 (tmV t))], [], H') ∧ RowAt H' o ol om l' tl' ms' cl ∧ HeapP l' l'.length ∧ (t :: l').Perm l ∧ Step H H' [o, ol, om] [o, ol, om] := by
  have hi := (List.getElem?_eq_some_iff.1 ha).1
  have L := r_Len o H h.row
  obtain ⟨n, hn⟩ : ∃ n, l.length = n + 1 := ⟨l.length - 1, by omega⟩
  have hs : ((l.length : Nat) : Int) - 1 = ((n : Nat) : Int) := by omega
  by_cases hin : n = i
  · subst hin
    obtain ⟨l3, rfl, hl3⟩ := split_last hn ha
    obtain ⟨H3, m3, P3, hR3, hS3⟩ := r_Pop h (by omega)
    refine ⟨H3, l3, _, m3, ?_, hR3, ?_, (List.perm_append_singleton t l3).symm, hS3⟩
    · refine Runs.toldH (fn := Try.f22) (n := 26) [(0, .val (hV o)), (1, .val (iv n))] [(0, .gone 0), (1, .gone 0)] rfl Try.func22 rfl rfl (by kernel_rfl) rfl (by repeat' constructor) (by repeat' constructor) ?_
      repeat' (first
        | intro _
        | refine Wo.subTo hs ?_
        | refine Ws ?_
        | (refine Wt ?_ ?_ <;> intro _ <;> try (exfalso; omega))
        | (refine Wu ?_ ?_ <;> intro _)
        | refine Wo.invI (name := "Len") L ?_
        | refine Wo.invI (name := "Pop") P3 ?_
        | refine Wl.retH rfl rfl
        | refine Wv ?_
        | refine Wz ?_
        | fail)
      rfl
    · rw [hl3]
      exact heap_take (fun k x y h1 h2 h3 hx hy => hh k x y h1 (by omega) h3 hx hy) fun k hk => by rw [List.getElem?_append_left (by omega)]
  · obtain ⟨b, hb⟩ := at_some (show n < l.length by omega)
    obtain ⟨H1, m1, S1, hR1, hS1⟩ := r_Swap h ha hb
    have hl1 : ((l.set i b).set n t).length = l.length := by simp
    have hA : HeapAny ((l.set i b).set n t) n i := by
      refine any_take (any_of_heap (fun k x y h1 h2 h3 hx hy => hh k x y h1 (by omega) h3 hx hy) (by omega) b) fun k hk => ?_
      rw [List.getElem?_set, if_neg (by omega)]
    obtain ⟨H2, l2, m2, r, D, hR2, hS2, hP2, hk2, ht2, hf2⟩ := r_down hR1 hA (by omega) (by omega) (by omega)
    have hl2 := hP2.length_eq
    have hlast : l2[n]? = some t := by rw [hk2 _ (Nat.le_refl _), swap_at ha hb, if_pos rfl]
    cases r with
    | true =>
      obtain ⟨l3, rfl, hl3⟩ := split_last (by omega) hlast
      obtain ⟨H3, m3, P3, hR3, hS3⟩ := r_Pop hR2 (by omega)
      refine ⟨H3, l3, _, m3, ?_, hR3, ?_, (List.perm_append_singleton t l3).symm.trans (hP2.trans (swap_perm ha hb)), (hS1.step.trans hS2.step).trans hS3⟩
      · refine Runs.toldH (fn := Try.f22) (n := 26) [(0, .val (hV o)), (1, .val (iv i))] [(0, .gone 0), (1, .gone 0)] rfl Try.func22 rfl rfl (by kernel_rfl) rfl (by repeat' constructor) (by repeat' constructor) ?_
        repeat' (first
          | intro _
          | refine Wo.subTo hs ?_
          | refine Ws ?_
          | (refine Wt ?_ ?_ <;> intro _ <;> try (exfalso; omega))
          | (refine Wu ?_ ?_ <;> intro _)
          | refine Wo.invI L ?_
          | refine Wo.invI S1 ?_
          | refine Wo.callI D ?_
          | refine Wo.invI P3 ?_
          | refine Wl.retH rfl rfl
          | refine Wv ?_
          | refine Wz ?_
          | fail)
        rfl
      · rw [hl3]
        exact heap_take (ht2 rfl) fun k hk => by rw [List.getElem?_append_left (by omega)]
    | false =>
      obtain ⟨H4, l4, m4, U, hR4, hS4, hP4, hk4, hh4⟩ := r_up hR2 (hf2 rfl) (by omega) (by omega) (by omega)
      have hl4 := hP4.length_eq
      obtain ⟨l3, rfl, hl3⟩ := split_last (by omega) ((hk4 _ (Nat.le_refl _)).trans hlast)
      obtain ⟨H3, m3, P3, hR3, hS3⟩ := r_Pop hR4 (by omega)
      refine ⟨H3, l3, _, m3, ?_, hR3, ?_, (List.perm_append_singleton t l3).symm.trans (hP4.trans (hP2.trans (swap_perm ha hb))), ((hS1.step.trans hS2.step).trans hS4.step).trans hS3⟩
      · refine Runs.toldH (fn := Try.f22) (n := 26) [(0, .val (hV o)), (1, .val (iv i))] [(0, .gone 0), (1, .gone 0)] rfl Try.func22 rfl rfl (by kernel_rfl) rfl (by repeat' constructor) (by repeat' constructor) ?_
        repeat' (first
          | intro _
          | refine Wo.subTo hs ?_
          | refine Ws ?_
          | (refine Wt ?_ ?_ <;> intro _ <;> try (exfalso; omega))
          | (refine Wu ?_ ?_ <;> intro _)
          | refine Wo.invI L ?_
          | refine Wo.invI S1 ?_
          | refine Wo.callI D ?_
          | refine Wo.callI U ?_
          | refine Wo.invI P3 ?_
          | refine Wl.retH rfl rfl
          | refine Wv ?_
          | refine Wz ?_
          | fail)
        rfl
      · rw [hl3]
        exact heap_take hh4 fun k hk => by rw [List.getElem?_append_left (by omega)]
end Go.Vi.CYtmcojibgjibkdaa
