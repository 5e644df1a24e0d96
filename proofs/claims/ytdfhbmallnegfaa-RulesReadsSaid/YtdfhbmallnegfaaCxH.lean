/-
  Which states can be reached: the walk.
-/
import Derived.Test.YtdfhbmallnegfaaCxG
import Derived.Test.YtdfhbmallnegfaaV3
namespace Go.Vi.CYtdfhbmallnegfaa
open Go.Vi Go.Proofs Go.Proofs.Ytdfhbmallnegfaa
set_option linter.unusedVariables false
set_option maxHeartbeats 8000000
set_option maxRecDepth 100000
set_option linter.unusedSimpArgs false

theorem r_to (r : Rl) (s : Int) (hr : r.ok) (H : Hp) : Runs Try.prog pol 35 [.val (rlV r), .val (iv s)] H ([.val (iv (to' r s))], [], H) := by
  have hok := hr.2.2.2.2.1
  unfold Sl.ok at hok
  refine Runs.told (fn := Try.f35) (n := 21) [(0, .val (rlV r)), (1, .val (iv s))] [(0, .gone 0), (1, .gone 0)] rfl Try.func35 rfl rfl (by kernel_rfl) rfl (by repeat' constructor) (by repeat' constructor) ?_
  repeat' (first
    | intro _
    | refine Ws ?_
    | (refine Wt ?_ ?_ <;> intro _ <;> try (exfalso; omega))
    | (refine Wu ?_ ?_ <;> intro _)
    | refine Wv ?_
    | refine Wz ?_
    | fail)
  refine Wx.loop [4, 8, 9, 20] [0, 1, 2] (fun (k, z) => [(10, .val (iv (k : Nat))), (1, .val (iv z))]) (fun (k, z) => []) (fun (k, z) => k ≤ r.steps.list.length ∧ z = (r.steps.list.take k).foldl toF s) (fun (k, z) => r.steps.list.length - k) (0, s) ⟨Nat.zero_le _, rfl⟩ (fun a x y hG => ?_)
  obtain ⟨k, z⟩ := a
  obtain ⟨h1, h2⟩ := hG
  dsimp only [List.cons_append, List.nil_append]
  rcases Nat.lt_or_ge k r.steps.list.length with hk | hk
  · obtain ⟨q, hq⟩ := at_some hk
    have hs : (r.steps.list.take (k + 1)).foldl toF s = toF z q := by rw [List.take_add_one, hq, List.foldl_append, ← h2]; rfl
    repeat' (first
      | intro _
      | refine Ws ?_
      | (refine Wt ?_ ?_ <;> intro _ <;> try (exfalso; omega))
      | (refine Wu ?_ ?_ <;> intro _)
      | refine Wv ?_
      | refine Wz ?_
      | fail)
    · exact Rd (k + 1, q.to) (by dsimp only; omega) ⟨by omega, by rw [hs]; unfold toF; rw [if_pos (by omega)]⟩
    · exact Rd (k + 1, z) (by dsimp only; omega) ⟨by omega, by rw [hs]; unfold toF; rw [if_neg (by omega)]⟩
  · repeat' (first
      | intro _
      | refine Ws ?_
      | (refine Wt ?_ ?_ <;> intro _ <;> try (exfalso; omega))
      | (refine Wu ?_ ?_ <;> intro _)
      | refine Wv ?_
      | refine Wz ?_
      | fail)
    rw [List.take_of_length_le hk] at h2
    subst h2; rfl

/-- how many are not marked -/
def free (O : List Bool) : Nat := O.countP fun b => !b
theorem free_set {O : List Bool} {i : Nat} (h : O[i]? = some false) : free (O.set i true) + 1 = free O := by
  induction O generalizing i with
  | nil => simp at h
  | cons a r ih =>
    cases i with
    | zero => simp at h; subst h; simp [free]
    | succ i =>
      simp only [List.getElem?_cons_succ] at h
      have := ih h
      simp only [free, List.set_cons_succ, List.countP_cons] at this ⊢
      omega

theorem r_Reach0 (t : Tb) (ht : t.ok) (hR : right' t = false) (H : Hp) : Runs Try.prog pol 16 [.val (tbV t)] H ([.val .nils], [], H) := by
  refine Runs.told (fn := Try.f16) (n := 57) [(0, .val (tbV t))] [(0, .gone 0)] rfl Try.func16 rfl rfl (by kernel_rfl) rfl (by repeat' constructor) (by repeat' constructor) ?_
  repeat' (first
    | intro _
    | refine Ws ?_
    | (refine Wt ?_ ?_ <;> intro _ <;> try (exfalso; omega))
    | (refine Wu ?_ ?_ <;> intro _)
    | refine Wo.callB (r_right t ht) (fun _ => ?_) (fun _ => ?_)
    | refine Wv ?_
    | refine Wz ?_
    | fail)
  all_goals first
    | (rename_i h; rw [hR] at h; cases h; done)
    | skip
  rfl
theorem r_Reach (t : Tb) (ht : t.ok) (hR : right' t = true) (H : Hp) : Runs Try.prog pol 16 [.val (tbV t)] H ([.own ((reach' t).map VV.bool) 1], [], H) := by
  have hst := right_states hR
  have hn : (t.states.list.length : Int).toNat = t.states.list.length := by omega
  refine Runs.told (fn := Try.f16) (n := 57) [(0, .val (tbV t))] [(0, .gone 0)] rfl Try.func16 rfl rfl (by kernel_rfl) rfl (by repeat' constructor) (by repeat' constructor) ?_
  repeat' (first
    | intro _
    | refine Ws ?_
    | (refine Wt ?_ ?_ <;> intro _ <;> try (exfalso; omega))
    | (refine Wu ?_ ?_ <;> intro _)
    | refine Wo.callB (r_right t ht) (fun _ => ?_) (fun _ => ?_)
    | refine Wv ?_
    | refine Wz ?_
    | fail)
  · rename_i g1 hb gO g0
    refine Wx.loop [1, 2, 56] [0, 1, 9] (fun (b, g, L, m, O) => [(3, .own 14 gO 0 (t.states.list.length : Int).toNat 1), (4, bif b then .own 15 g 0 m 1 else .own 54 g 0 m 1)]) (fun (b, g, L, m, O) => [(14, .row gO (O.map VV.bool) 1 false), ((bif b then 15 else 54), .row g (L.map iv) 1 false)]) (fun (b, g, L, m, O) => m ≤ L.length ∧ RInv t O (L.take m) none ∧ m + 12 * free O ≤ 1000) (fun (b, g, L, m, O) => 13 * free O + m) (true, g0, [0], 1, List.replicate (t.states.list.length : Int).toNat false) ⟨by simp, by rw [hn]; exact RInv.start hR, by rw [hn]; simp [free, List.countP_replicate]; omega⟩ (fun a x y hG => ?_)
    obtain ⟨b, g, L, m, O⟩ := a
    obtain ⟨h1, h2, h3⟩ := hG
    dsimp only [List.cons_append, List.nil_append]
    have hlt := h2.len
    rcases Nat.eq_zero_or_pos m with hm | hm
    · subst hm
      have hfin := RInv.final hR h2
      subst hfin
      cases b <;> dsimp only [cond]
      all_goals (
        repeat' (first
          | intro _
          | refine Ws ?_
          | (refine Wt ?_ ?_ <;> intro _ <;> try (exfalso; omega))
          | (refine Wu ?_ ?_ <;> intro _)
          | refine Wv ?_
          | refine Wz ?_
          | fail)
        refine Wl.retR ?_
        rfl)
    · obtain ⟨s, hs⟩ := at_some (show 0 + ((m : Int) - 1).toNat < L.length by omega)
      have hsm : L.take m = L.take ((m : Int) - 1).toNat ++ [s] := by
        have e : m = (0 + ((m : Int) - 1).toNat) + 1 := by omega
        conv => lhs; rw [e]
        rw [List.take_add_one, hs, Nat.zero_add]; rfl
      rw [hsm] at h2
      obtain ⟨hs0, hs1, hsr⟩ := h2.wr s (by simp)
      have hsl : 0 + s.toNat < O.length := by omega
      obtain ⟨o, ho⟩ := at_some hsl
      have ho' : O[s.toNat]? = some o := by rw [Nat.zero_add] at ho; exact ho
      cases o with
      | true =>
        cases b <;> dsimp only [cond]
        · repeat' (first
            | intro _
            | refine Ws ?_
            | (refine Wt ?_ ?_ <;> intro _ <;> try (exfalso; omega))
            | (refine Wu ?_ ?_ <;> intro _)
            | refine Wv ?_
            | refine Wz ?_
            | fail)
          exact Rd (false, g, L, ((m : Int) - 1).toNat, O) (by dsimp only; omega) ⟨by dsimp only; omega, h2.seen ho', by dsimp only; omega⟩
        · repeat' (first
            | intro _
            | refine Ws ?_
            | (refine Wt ?_ ?_ <;> intro _ <;> try (exfalso; omega))
            | (refine Wu ?_ ?_ <;> intro _)
            | refine Wv ?_
            | refine Wz ?_
            | fail)
          exact Rd (true, g, L, ((m : Int) - 1).toNat, O) (by dsimp only; omega) ⟨by dsimp only; omega, h2.seen ho', by dsimp only; omega⟩
      | false =>
        have hfr := h2.fresh
        have hfs := free_set ho'
        have hrl := hst.2.2.2.2
        have hO' : O.set (0 + s.toNat) true = O.set s.toNat true := by rw [Nat.zero_add]
        cases b <;> dsimp only [cond]
        · repeat' (first
            | intro _
            | refine Ws ?_
            | (refine Wt ?_ ?_ <;> intro _ <;> try (exfalso; omega))
            | (refine Wu ?_ ?_ <;> intro _)
            | refine Wv ?_
            | refine Wz ?_
            | fail)
          refine Wx.loop [1, 2, 3, 5, 16, 17, 18, 19, 20, 21, 22, 23, 24, 25, 26, 27, 28, 29, 30, 31, 32, 33, 34, 35, 36, 37, 38, 39, 56] [0, 1, 9, 14] (fun (c, g2, L2, m2, k) => [(40, .val (iv (k : Nat))), (4, bif c then .own 15 g2 0 m2 1 else .own 54 g2 0 m2 1)]) (fun (c, g2, L2, m2, k) => [((bif c then 15 else 54), .row g2 (L2.map iv) 1 false)]) (fun (c, g2, L2, m2, k) => (m2 ≤ L2.length ∧ k ≤ t.rules.list.length ∧ m2 ≤ ((m : Int) - 1).toNat + k) ∧ RInv t (O.set (0 + s.toNat) true) (L2.take m2) (some (s, k))) (fun (c, g2, L2, m2, k) => t.rules.list.length - k) (false, g, L, ((m : Int) - 1).toNat, 0) ⟨⟨by omega, Nat.zero_le _, by omega⟩, by rw [hO']; exact hfr⟩ (fun a x y hG => ?_)
          obtain ⟨c, g2, L2, m2, k⟩ := a
          obtain ⟨q1, q2⟩ := hG
          dsimp only [List.cons_append, List.nil_append]
          obtain ⟨q3, q4, q5⟩ := q1
          rcases Nat.lt_or_ge k t.rules.list.length with hk | hk
          · obtain ⟨r, hr⟩ := at_some hk
            have hrok := ht.2.2.2.2 r (List.mem_of_getElem? hr)
            cases c <;> dsimp only [cond]
            · repeat' (first
                | intro _
                | refine Ws ?_
                | (refine Wt ?_ ?_ <;> intro _ <;> try (exfalso; omega))
                | (refine Wu ?_ ?_ <;> intro _)
                | refine Wo.callB (r_For t k s ht) (fun _ => ?_) (fun _ => ?_)
                | refine Wo.call0 (r_to r _ hrok) ?_
                | refine Wv ?_
                | refine Wz ?_
                | fail)
              · rename_i hf _
                exact Rd (false, _, L2.take m2 ++ [to' r s], m2 + 1, k + 1) (by dsimp only; omega) ⟨⟨by dsimp only; rw [List.length_append, List.length_take, List.length_singleton]; omega, by dsimp only; omega, by dsimp only; omega⟩, by dsimp only; rw [List.take_of_length_le (by rw [List.length_append, List.length_take, List.length_singleton]; omega)]; exact q2.push hR ⟨hs0, hs1, hsr⟩ hr (by assumption)⟩
              · exact Rd (false, g2, L2, m2, k + 1) (by dsimp only; omega) ⟨⟨by dsimp only; omega, by dsimp only; omega, by dsimp only; omega⟩, q2.pass (by assumption)⟩
            · repeat' (first
                | intro _
                | refine Ws ?_
                | (refine Wt ?_ ?_ <;> intro _ <;> try (exfalso; omega))
                | (refine Wu ?_ ?_ <;> intro _)
                | refine Wo.callB (r_For t k s ht) (fun _ => ?_) (fun _ => ?_)
                | refine Wo.call0 (r_to r _ hrok) ?_
                | refine Wv ?_
                | refine Wz ?_
                | fail)
              · exact Rd (false, _, L2.take m2 ++ [to' r s], m2 + 1, k + 1) (by dsimp only; omega) ⟨⟨by dsimp only; rw [List.length_append, List.length_take, List.length_singleton]; omega, by dsimp only; omega, by dsimp only; omega⟩, by dsimp only; rw [List.take_of_length_le (by rw [List.length_append, List.length_take, List.length_singleton]; omega)]; exact q2.push hR ⟨hs0, hs1, hsr⟩ hr (by assumption)⟩
              · exact Rd (true, g2, L2, m2, k + 1) (by dsimp only; omega) ⟨⟨by dsimp only; omega, by dsimp only; omega, by dsimp only; omega⟩, q2.pass (by assumption)⟩
          · have hkk : k = t.rules.list.length := by omega
            subst hkk
            have hov := q2.over
            cases c <;> dsimp only [cond]
            · repeat' (first
                | intro _
                | refine Ws ?_
                | (refine Wt ?_ ?_ <;> intro _ <;> try (exfalso; omega))
                | (refine Wu ?_ ?_ <;> intro _)
                | refine Wv ?_
                | refine Wz ?_
                | fail)
              exact Rd (false, g2, L2, m2, O.set (0 + s.toNat) true) (by dsimp only; rw [hO']; omega) ⟨by dsimp only; omega, hov, by dsimp only; rw [hO']; omega⟩
            · repeat' (first
                | intro _
                | refine Ws ?_
                | (refine Wt ?_ ?_ <;> intro _ <;> try (exfalso; omega))
                | (refine Wu ?_ ?_ <;> intro _)
                | refine Wv ?_
                | refine Wz ?_
                | fail)
              exact Rd (true, g2, L2, m2, O.set (0 + s.toNat) true) (by dsimp only; rw [hO']; omega) ⟨by dsimp only; omega, hov, by dsimp only; rw [hO']; omega⟩
        · repeat' (first
            | intro _
            | refine Ws ?_
            | (refine Wt ?_ ?_ <;> intro _ <;> try (exfalso; omega))
            | (refine Wu ?_ ?_ <;> intro _)
            | refine Wv ?_
            | refine Wz ?_
            | fail)
          refine Wx.loop [1, 2, 3, 5, 16, 17, 18, 19, 20, 21, 22, 23, 24, 25, 26, 27, 28, 29, 30, 31, 32, 33, 34, 35, 36, 37, 38, 39, 56] [0, 1, 9, 14] (fun (c, g2, L2, m2, k) => [(40, .val (iv (k : Nat))), (4, bif c then .own 15 g2 0 m2 1 else .own 54 g2 0 m2 1)]) (fun (c, g2, L2, m2, k) => [((bif c then 15 else 54), .row g2 (L2.map iv) 1 false)]) (fun (c, g2, L2, m2, k) => (m2 ≤ L2.length ∧ k ≤ t.rules.list.length ∧ m2 ≤ ((m : Int) - 1).toNat + k) ∧ RInv t (O.set (0 + s.toNat) true) (L2.take m2) (some (s, k))) (fun (c, g2, L2, m2, k) => t.rules.list.length - k) (true, g, L, ((m : Int) - 1).toNat, 0) ⟨⟨by omega, Nat.zero_le _, by omega⟩, by rw [hO']; exact hfr⟩ (fun a x y hG => ?_)
          obtain ⟨c, g2, L2, m2, k⟩ := a
          obtain ⟨q1, q2⟩ := hG
          dsimp only [List.cons_append, List.nil_append]
          obtain ⟨q3, q4, q5⟩ := q1
          rcases Nat.lt_or_ge k t.rules.list.length with hk | hk
          · obtain ⟨r, hr⟩ := at_some hk
            have hrok := ht.2.2.2.2 r (List.mem_of_getElem? hr)
            cases c <;> dsimp only [cond]
            · repeat' (first
                | intro _
                | refine Ws ?_
                | (refine Wt ?_ ?_ <;> intro _ <;> try (exfalso; omega))
                | (refine Wu ?_ ?_ <;> intro _)
                | refine Wo.callB (r_For t k s ht) (fun _ => ?_) (fun _ => ?_)
                | refine Wo.call0 (r_to r _ hrok) ?_
                | refine Wv ?_
                | refine Wz ?_
                | fail)
              · rename_i hf _
                exact Rd (false, _, L2.take m2 ++ [to' r s], m2 + 1, k + 1) (by dsimp only; omega) ⟨⟨by dsimp only; rw [List.length_append, List.length_take, List.length_singleton]; omega, by dsimp only; omega, by dsimp only; omega⟩, by dsimp only; rw [List.take_of_length_le (by rw [List.length_append, List.length_take, List.length_singleton]; omega)]; exact q2.push hR ⟨hs0, hs1, hsr⟩ hr (by assumption)⟩
              · exact Rd (false, g2, L2, m2, k + 1) (by dsimp only; omega) ⟨⟨by dsimp only; omega, by dsimp only; omega, by dsimp only; omega⟩, q2.pass (by assumption)⟩
            · repeat' (first
                | intro _
                | refine Ws ?_
                | (refine Wt ?_ ?_ <;> intro _ <;> try (exfalso; omega))
                | (refine Wu ?_ ?_ <;> intro _)
                | refine Wo.callB (r_For t k s ht) (fun _ => ?_) (fun _ => ?_)
                | refine Wo.call0 (r_to r _ hrok) ?_
                | refine Wv ?_
                | refine Wz ?_
                | fail)
              · exact Rd (false, _, L2.take m2 ++ [to' r s], m2 + 1, k + 1) (by dsimp only; omega) ⟨⟨by dsimp only; rw [List.length_append, List.length_take, List.length_singleton]; omega, by dsimp only; omega, by dsimp only; omega⟩, by dsimp only; rw [List.take_of_length_le (by rw [List.length_append, List.length_take, List.length_singleton]; omega)]; exact q2.push hR ⟨hs0, hs1, hsr⟩ hr (by assumption)⟩
              · exact Rd (true, g2, L2, m2, k + 1) (by dsimp only; omega) ⟨⟨by dsimp only; omega, by dsimp only; omega, by dsimp only; omega⟩, q2.pass (by assumption)⟩
          · have hkk : k = t.rules.list.length := by omega
            subst hkk
            have hov := q2.over
            cases c <;> dsimp only [cond]
            · repeat' (first
                | intro _
                | refine Ws ?_
                | (refine Wt ?_ ?_ <;> intro _ <;> try (exfalso; omega))
                | (refine Wu ?_ ?_ <;> intro _)
                | refine Wv ?_
                | refine Wz ?_
                | fail)
              exact Rd (false, g2, L2, m2, O.set (0 + s.toNat) true) (by dsimp only; rw [hO']; omega) ⟨by dsimp only; omega, hov, by dsimp only; rw [hO']; omega⟩
            · repeat' (first
                | intro _
                | refine Ws ?_
                | (refine Wt ?_ ?_ <;> intro _ <;> try (exfalso; omega))
                | (refine Wu ?_ ?_ <;> intro _)
                | refine Wv ?_
                | refine Wz ?_
                | fail)
              exact Rd (true, g2, L2, m2, O.set (0 + s.toNat) true) (by dsimp only; rw [hO']; omega) ⟨by dsimp only; omega, hov, by dsimp only; rw [hO']; omega⟩
  · rename_i g1 hb
    rw [hR] at hb; cases hb
end Go.Vi.CYtdfhbmallnegfaa
