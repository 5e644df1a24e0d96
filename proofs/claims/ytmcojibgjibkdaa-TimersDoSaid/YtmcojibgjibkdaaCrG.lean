/-
  container/heap over a row of timers: up, down.
-/
import Derived.Test.YtmcojibgjibkdaaCrF
namespace Go.Vi.CYtmcojibgjibkdaa
open Go.Vi Go.Proofs Go.Proofs.Ytmcojibgjibkdaa
set_option linter.unusedVariables false
set_option maxHeartbeats 8000000
set_option maxRecDepth 100000
set_option linter.unusedSimpArgs false

abbrev hV (o : Nat) : VV := .iface 54 (.ptr o 0)
theorem r_up {H : Hp} {o ol om cl n : Nat} {l tl : List Tm} {ms : List En} {j : Nat} (h : RowAt H o ol om l tl ms cl) (hu : HeapUp l n j) (hj : j < n) (hn : n ≤ l.length) (hlen : l.length ≤ 2000000) :
    ∃ H' l' ms', Runs Try.prog pol 29 [.val (hV o), .val (iv j)] H ([], [], H') ∧ RowAt H' o ol om l' tl ms' cl ∧ Same H H' ol om ∧ l'.Perm l ∧ (∀ k, n ≤ k → l'[k]? = l[k]?) ∧ HeapP l' n := by
  suffices hE : RunsE Try.prog pol 29 [.val (hV o), .val (iv j)] H (fun r H' => r = [] ∧ ∃ l' ms', RowAt H' o ol om l' tl ms' cl ∧ Same H H' ol om ∧ l'.Perm l ∧ (∀ k, n ≤ k → l'[k]? = l[k]?) ∧ HeapP l' n) by
    obtain ⟨r, H', h1, rfl, l', ms', h2⟩ := hE
    exact ⟨H', l', ms', h1, h2⟩
  refine Runs.toldE (fn := Try.f29) (n := 23) [(0, .val (hV o)), (1, .val (iv j))] [(0, .gone 0), (1, .gone 0)] rfl Try.func29 rfl rfl (by kernel_rfl) rfl (by repeat' constructor) (by repeat' constructor) ?_
  repeat' (first
    | intro _
    | refine Ws ?_
    | (refine Wt ?_ ?_ <;> intro _ <;> try (exfalso; omega))
    | (refine Wu ?_ ?_ <;> intro _)
    | refine Wv ?_
    | refine Wz ?_
    | fail)
  refine Wx.loopH (fun (K, l1, m1, i) => K) [0] [0, 1] (fun (K, l1, m1, i) => [(1, .val (iv (i : Nat)))]) (fun (K, l1, m1, i) => []) (fun (K, l1, m1, i) => RowAt K o ol om l1 tl m1 cl ∧ Same H K ol om ∧ l1.Perm l ∧ (∀ k, n ≤ k → l1[k]? = l[k]?) ∧ HeapUp l1 n i ∧ i < n) (fun (K, l1, m1, i) => i) (H, l, ms, j) ⟨h, Same.refl, List.Perm.refl _, fun _ _ => rfl, hu, hj⟩ (fun a x y hG => ?_)
  obtain ⟨K, l1, m1, i⟩ := a
  obtain ⟨hR, hS, hP, hk, hU, hi⟩ := hG
  dsimp only [List.cons_append, List.nil_append]
  have hl1 := hP.length_eq
  rcases Nat.eq_zero_or_pos i with h0 | h0
  · subst h0
    have hq : (((0 : Nat) : Int) - 1).tdiv 2 = ((0 : Nat) : Int) := by decide
    repeat' (first
      | intro _
      | refine Wo.quoTo hq ?_
      | refine Ws ?_
      | (refine Wt ?_ ?_ <;> intro _ <;> try (exfalso; omega))
      | (refine Wu ?_ ?_ <;> intro _)
      | refine Wl.normalE ?_
      | refine Wv ?_
      | refine Wz ?_
      | fail)
    exact ⟨rfl, l1, m1, hR, hS, hP, hk, up_end0 hU⟩
  · have hq : ((i : Int) - 1).tdiv 2 = ((par i : Nat) : Int) := by
      unfold par
      rw [Int.tdiv_eq_ediv_of_nonneg (by omega)]; omega
    have hpi : par i < i := by unfold par; omega
    obtain ⟨a, ha⟩ := at_some (show par i < l1.length by omega)
    obtain ⟨b, hb⟩ := at_some (show i < l1.length by omega)
    have L := r_Less hR hb ha
    obtain ⟨K', m', S, hR', hS'⟩ := r_Swap hR ha hb
    cases hab : aheadB b a with
    | false =>
      rw [hab] at L
      repeat' (first
        | intro _
        | refine Wo.quoTo hq ?_
        | refine Ws ?_
        | (refine Wt ?_ ?_ <;> intro _ <;> try (exfalso; omega))
        | (refine Wu ?_ ?_ <;> intro _)
        | refine Wo.invI L ?_
        | refine Wl.normalE ?_
        | refine Wv ?_
        | refine Wz ?_
        | fail)
      exact ⟨rfl, l1, m1, hR, hS, hP, hk, up_end hU ha hb hab⟩
    | true =>
      rw [hab] at L
      repeat' (first
        | intro _
        | refine Wo.quoTo hq ?_
        | refine Ws ?_
        | (refine Wt ?_ ?_ <;> intro _ <;> try (exfalso; omega))
        | (refine Wu ?_ ?_ <;> intro _)
        | refine Wo.invI L ?_
        | refine Wo.invI S ?_
        | refine Wl.normalE ?_
        | refine Wv ?_
        | refine Wz ?_
        | fail)
      refine RdH (K', (l1.set (par i) b).set i a, m', par i) hpi ⟨hR', hS.trans hS', (swap_perm ha hb).trans hP, fun k hkk => ?_, up_step hU h0 hi (by omega) ha hb hab, (by dsimp only; omega)⟩ rfl
      rw [swap_at ha hb, if_neg (by omega), if_neg (by omega)]; exact hk k hkk

theorem below {i k : Nat} (h0 : 0 < k) (h : par k = i) : k = 2 * i + 1 ∨ k = 2 * i + 1 + 1 := by unfold par at h; omega
theorem r_down {H : Hp} {o ol om cl n : Nat} {l tl : List Tm} {ms : List En} {i0 : Nat} (h : RowAt H o ol om l tl ms cl) (hu : HeapAny l n i0) (hi0 : i0 < l.length) (hn : n ≤ l.length) (hlen : l.length ≤ 2000000) :
    ∃ H' l' ms' r, Runs Try.prog pol 28 [.val (hV o), .val (iv i0), .val (iv n)] H ([.val (.bool r)], [], H') ∧ RowAt H' o ol om l' tl ms' cl ∧ Same H H' ol om ∧ l'.Perm l ∧ (∀ k, n ≤ k → l'[k]? = l[k]?) ∧ (r = true → HeapP l' n) ∧ (r = false → HeapUp l' n i0) := by
  suffices hE : RunsE Try.prog pol 28 [.val (hV o), .val (iv i0), .val (iv n)] H (fun r H' => ∃ l' ms' b, r = [.val (.bool b)] ∧ RowAt H' o ol om l' tl ms' cl ∧ Same H H' ol om ∧ l'.Perm l ∧ (∀ k, n ≤ k → l'[k]? = l[k]?) ∧ (b = true → HeapP l' n) ∧ (b = false → HeapUp l' n i0)) by
    obtain ⟨r, H', h1, l', ms', b, rfl, h2⟩ := hE
    exact ⟨H', l', ms', b, h1, h2⟩
  refine Runs.toldE (fn := Try.f28) (n := 48) [(0, .val (hV o)), (1, .val (iv i0)), (2, .val (iv n))] [(0, .gone 0), (1, .gone 0), (2, .gone 0)] rfl Try.func28 rfl rfl (by kernel_rfl) rfl (by repeat' constructor) (by repeat' constructor) ?_
  repeat' (first
    | intro _
    | refine Ws ?_
    | (refine Wt ?_ ?_ <;> intro _ <;> try (exfalso; omega))
    | (refine Wu ?_ ?_ <;> intro _)
    | refine Wv ?_
    | refine Wz ?_
    | fail)
  refine Wx.loopH (fun (K, l1, m1, i) => K) [0, 1, 2, 6, 45, 46, 47] [0, 1, 2] (fun (K, l1, m1, i) => [(7, .val (iv (i : Nat)))]) (fun (K, l1, m1, i) => []) (fun (K, l1, m1, i) => RowAt K o ol om l1 tl m1 cl ∧ Same H K ol om ∧ l1.Perm l ∧ (∀ k, n ≤ k → l1[k]? = l[k]?) ∧ HeapAny l1 n i ∧ (i ≠ i0 → HeapDn l1 n i) ∧ i0 ≤ i ∧ i < l.length) (fun (K, l1, m1, i) => l.length - i) (H, l, ms, i0) ⟨h, Same.refl, List.Perm.refl _, fun _ _ => rfl, hu, fun e => absurd rfl e, Nat.le_refl _, hi0⟩ (fun a x y hG => ?_)
  obtain ⟨K, l1, m1, i⟩ := a
  obtain ⟨hR, hS, hP, hk, hA, hD, hi, hil⟩ := hG
  dsimp only [List.cons_append, List.nil_append]
  have hl1 := hP.length_eq
  obtain ⟨a, ha⟩ := at_some (show i < l1.length by omega)
  have fin : (∀ k b, 0 < k → k < n → par k = i → l1[k]? = some b → le a b) → (i0 < i → HeapP l1 n) ∧ (¬ i0 < i → HeapUp l1 n i0) := by
    intro hm
    refine ⟨fun e => dn_end (hD (by omega)) ha hm, fun e => ?_⟩
    have : i = i0 := by omega
    subst this
    exact any_end hA ha hm
  rcases Nat.lt_or_ge (2 * i + 1) n with hj | hj
  · obtain ⟨c1, hc1⟩ := at_some (show 2 * i + 1 < l1.length by omega)
    -- the first of the two below
    have step : ∀ (j : Nat) (c : Tm), par j = i → 0 < j → j < n → l1[j]? = some c → aheadB c a = true → (∀ k b, 0 < k → k < n → par k = i → l1[k]? = some b → le c b) → ∀ {K' : Hp} {m' : List En}, RowAt K' o ol om ((l1.set i c).set j a) tl m' cl → Same K K' ol om →
        RowAt K' o ol om ((l1.set i c).set j a) tl m' cl ∧ Same H K' ol om ∧ ((l1.set i c).set j a).Perm l ∧ (∀ k, n ≤ k → ((l1.set i c).set j a)[k]? = l[k]?) ∧ HeapAny ((l1.set i c).set j a) n j ∧ (j ≠ i0 → HeapDn ((l1.set i c).set j a) n j) ∧ i0 ≤ j ∧ j < l.length := by
      intro j c p1 p2 p3 hc hca hm K' m' hR' hS'
      have hij : i < j := by rw [← p1]; unfold par; omega
      have dn := dn_step hA p1 p2 p3 (by omega) ha hc hca hm
      refine ⟨hR', hS.trans hS', (swap_perm ha hc).trans hP, fun k hkk => ?_, any_of_dn dn, fun _ => dn, by omega, by omega⟩
      rw [swap_at ha hc, if_neg (by omega), if_neg (by omega)]; exact hk k hkk
    have pj1 : par (2 * i + 1) = i := by unfold par; omega
    have pj2 : par (2 * i + 1 + 1) = i := by unfold par; omega
    have La := r_Less hR hc1 ha
    obtain ⟨K1, m1', S1, hR1, hS1⟩ := r_Swap hR ha hc1
    rcases Nat.lt_or_ge (2 * i + 1 + 1) n with hj2 | hj2
    · obtain ⟨c2, hc2⟩ := at_some (show 2 * i + 1 + 1 < l1.length by omega)
      have Lc := r_Less hR hc2 hc1
      have Lb := r_Less hR hc2 ha
      obtain ⟨K2, m2', S2, hR2, hS2⟩ := r_Swap hR ha hc2
      cases h12 : aheadB c2 c1 with
      | true =>
        rw [h12] at Lc
        have hm : ∀ k b, 0 < k → k < n → par k = i → l1[k]? = some b → le c2 b := fun k b k1 k2 k3 k4 => by
          rcases below k1 k3 with e | e
          · rw [e, hc1] at k4; cases k4; exact le_of_ahead h12
          · rw [e, hc2] at k4; cases k4; exact le_refl _
        cases hca : aheadB c2 a with
        | true =>
          rw [hca] at Lb
          repeat' (first
            | intro _
            | refine Ws ?_
            | (refine Wt ?_ ?_ <;> intro _ <;> try (exfalso; omega))
            | (refine Wu ?_ ?_ <;> intro _)
            | refine Wo.mul ?_
            | refine Wo.invI Lc ?_
            | refine Wo.invI Lb ?_
            | refine Wo.invI S2 ?_
            | refine Wl.retE ?_
            | refine Wv ?_
            | refine Wz ?_
            | fail)
          exact RdH (K2, _, m2', 2 * i + 1 + 1) (by dsimp only; omega) (step _ _ pj2 (by omega) hj2 hc2 hca hm hR2 hS2) rfl
        | false =>
          rw [hca] at Lb
          have F := fin fun k b k1 k2 k3 k4 => le_trans (show le a c2 from hca) (hm k b k1 k2 k3 k4)
          repeat' (first
            | intro _
            | refine Ws ?_
            | (refine Wt ?_ ?_ <;> intro _ <;> try (exfalso; omega))
            | (refine Wu ?_ ?_ <;> intro _)
            | refine Wo.mul ?_
            | refine Wo.invI Lc ?_
            | refine Wo.invI Lb ?_
            | refine Wl.retE ?_
            | refine Wv ?_
            | refine Wz ?_
            | fail)
          · exact ⟨l1, m1, true, rfl, hR, hS, hP, hk, fun _ => F.1 (by omega), fun e => (by cases e)⟩
          · exact ⟨l1, m1, false, rfl, hR, hS, hP, hk, fun e => (by cases e), fun _ => F.2 (by omega)⟩
      | false =>
        rw [h12] at Lc
        have hm : ∀ k b, 0 < k → k < n → par k = i → l1[k]? = some b → le c1 b := fun k b k1 k2 k3 k4 => by
          rcases below k1 k3 with e | e
          · rw [e, hc1] at k4; cases k4; exact le_refl _
          · rw [e, hc2] at k4; cases k4; exact h12
        cases hca : aheadB c1 a with
        | true =>
          rw [hca] at La
          repeat' (first
            | intro _
            | refine Ws ?_
            | (refine Wt ?_ ?_ <;> intro _ <;> try (exfalso; omega))
            | (refine Wu ?_ ?_ <;> intro _)
            | refine Wo.mul ?_
            | refine Wo.invI Lc ?_
            | refine Wo.invI La ?_
            | refine Wo.invI S1 ?_
            | refine Wl.retE ?_
            | refine Wv ?_
            | refine Wz ?_
            | fail)
          exact RdH (K1, _, m1', 2 * i + 1) (by dsimp only; omega) (step _ _ pj1 (by omega) hj hc1 hca hm hR1 hS1) rfl
        | false =>
          rw [hca] at La
          have F := fin fun k b k1 k2 k3 k4 => le_trans (show le a c1 from hca) (hm k b k1 k2 k3 k4)
          repeat' (first
            | intro _
            | refine Ws ?_
            | (refine Wt ?_ ?_ <;> intro _ <;> try (exfalso; omega))
            | (refine Wu ?_ ?_ <;> intro _)
            | refine Wo.mul ?_
            | refine Wo.invI Lc ?_
            | refine Wo.invI La ?_
            | refine Wl.retE ?_
            | refine Wv ?_
            | refine Wz ?_
            | fail)
          · exact ⟨l1, m1, true, rfl, hR, hS, hP, hk, fun _ => F.1 (by omega), fun e => (by cases e)⟩
          · exact ⟨l1, m1, false, rfl, hR, hS, hP, hk, fun e => (by cases e), fun _ => F.2 (by omega)⟩
    · have hm : ∀ k b, 0 < k → k < n → par k = i → l1[k]? = some b → le c1 b := fun k b k1 k2 k3 k4 => by
        rcases below k1 k3 with e | e
        · rw [e, hc1] at k4; cases k4; exact le_refl _
        · omega
      cases hca : aheadB c1 a with
      | true =>
        rw [hca] at La
        repeat' (first
          | intro _
          | refine Ws ?_
          | (refine Wt ?_ ?_ <;> intro _ <;> try (exfalso; omega))
          | (refine Wu ?_ ?_ <;> intro _)
          | refine Wo.mul ?_
          | refine Wo.invI La ?_
          | refine Wo.invI S1 ?_
          | refine Wl.retE ?_
          | refine Wv ?_
          | refine Wz ?_
          | fail)
        exact RdH (K1, _, m1', 2 * i + 1) (by dsimp only; omega) (step _ _ pj1 (by omega) hj hc1 hca hm hR1 hS1) rfl
      | false =>
        rw [hca] at La
        have F := fin fun k b k1 k2 k3 k4 => le_trans (show le a c1 from hca) (hm k b k1 k2 k3 k4)
        repeat' (first
          | intro _
          | refine Ws ?_
          | (refine Wt ?_ ?_ <;> intro _ <;> try (exfalso; omega))
          | (refine Wu ?_ ?_ <;> intro _)
          | refine Wo.mul ?_
          | refine Wo.invI La ?_
          | refine Wl.retE ?_
          | refine Wv ?_
          | refine Wz ?_
          | fail)
        · exact ⟨l1, m1, true, rfl, hR, hS, hP, hk, fun _ => F.1 (by omega), fun e => (by cases e)⟩
        · exact ⟨l1, m1, false, rfl, hR, hS, hP, hk, fun e => (by cases e), fun _ => F.2 (by omega)⟩
  · have F := fin fun k b k1 k2 k3 k4 => by rcases below k1 k3 with e | e <;> omega
    repeat' (first
      | intro _
      | refine Ws ?_
      | (refine Wt ?_ ?_ <;> intro _ <;> try (exfalso; omega))
      | (refine Wu ?_ ?_ <;> intro _)
      | refine Wo.mul ?_
      | refine Wl.retE ?_
      | refine Wv ?_
      | refine Wz ?_
      | fail)
    · exact ⟨l1, m1, true, rfl, hR, hS, hP, hk, fun _ => F.1 (by omega), fun e => (by cases e)⟩
    · exact ⟨l1, m1, false, rfl, hR, hS, hP, hk, fun e => (by cases e), fun _ => F.2 (by omega)⟩
end Go.Vi.CYtmcojibgjibkdaa
