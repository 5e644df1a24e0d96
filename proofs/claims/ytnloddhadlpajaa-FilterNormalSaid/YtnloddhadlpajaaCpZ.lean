/-
  FilterNormal.
-/
import Derived.Test.YtnloddhadlpajaaCpY
namespace Go.Vi.CYtnloddhadlpajaa
open Go.Vi Go.Proofs Go.Proofs.Ytnloddhadlpajaa
set_option linter.unusedVariables false
set_option maxHeartbeats 4000000
set_option maxRecDepth 100000
set_option linter.unusedSimpArgs false

theorem turn_mem {l r : List ByteArray} {f : Nat} (hl : r.length = l.length) (h : ∀ j, j < l.length → r[j]? = l[(j + f) % l.length]?) : ∀ z, z ∈ r ↔ z ∈ l := by
  intro z
  constructor
  · intro hz
    obtain ⟨j, hj, rfl⟩ := List.getElem_of_mem hz
    have h1 := h j (by omega)
    rw [List.getElem?_eq_getElem hj] at h1
    exact List.mem_of_getElem? h1.symm
  · intro hz
    obtain ⟨k, hk, rfl⟩ := List.getElem_of_mem hz
    have hp : 0 < l.length := by omega
    have hlt : (k + (l.length - f % l.length)) % l.length < l.length := Nat.mod_lt _ hp
    have h1 := h _ hlt
    have e : ((k + (l.length - f % l.length)) % l.length + f) % l.length = k := by
      have h2 : f % l.length < l.length := Nat.mod_lt _ hp
      rw [Nat.mod_add_mod]
      have h3 : k + (l.length - f % l.length) + f = k + l.length * (f / l.length + 1) := by
        have := Nat.div_add_mod f l.length
        rw [Nat.mul_add, Nat.mul_one]
        omega
      rw [h3, Nat.add_mul_mod_self_left, Nat.mod_eq_of_lt hk]
    rw [e, List.getElem?_eq_getElem hk] at h1
    exact List.mem_of_getElem? h1
theorem r_FilterNormal (l : Sl ByteArray) (s : ByteArray) (f : Nat) (hf : f < 256) (hl : Sl.ok l) (H : Hp) (hH : H = Hp.bare 0) : Runs Try.prog pol 5 [.val (slV VV.str l), .val (.str s), .val (.int .u8 (f : Nat))] H ([.val (.bool true)], [], H) := by
  subst hH
  have h1 := r_RRight l hl
  cases hr : rightF l.list with
  | false =>
    rw [hr] at h1
    refine Runs.told (fn := Try.f5) (n := 75) [(0, .val (slV VV.str l)), (1, .val (.str s)), (2, .val (.int .u8 (f : Nat)))] [(0, .gone 0), (1, .gone 0), (2, .gone 0)] rfl Try.func5 rfl rfl (by kernel_rfl) rfl (by repeat' constructor) (by repeat' constructor) ?_
    repeat' (first
      | intro _
      | refine Ws ?_
      | (refine Wt ?_ ?_ <;> intro _ <;> try (exfalso; omega))
      | (refine Wu ?_ ?_ <;> intro _)
      | refine Wo.callAt r_awake ?_
      | refine Wo.call0 (h1) ?_
      | refine Wv ?_
      | refine Wz ?_
      | fail)
    all_goals first
      | rfl
      | trace_state
  | true =>
    rw [hr] at h1
    have h8 := (right_iff.1 hr).1
    have h2 := r_Normal l hl hr
    have hnl : (slO (lst l.list)).list = lst l.list := slO_list _
    have hnn := lst_len l.list
    generalize hn : slO (lst l.list) = n at h2 hnl
    have hno : Sl.ok n := by unfold Sl.ok; rw [hnl]; omega
    have hnr : rightF n.list = true := by rw [hnl]; exact lst_right hr
    have h3 := r_Has n hno s
    rw [hnl, lst_has hr] at h3
    have h4 := r_Has l hl s
    have h5 := r_FCovers n l hno hl
    rw [hnl, lst_cov hr] at h5
    have h6 := r_FCovers l n hl hno
    rw [hnl, cov_lst hr] at h6
    have h7 := r_Normal n hno hnr
    have e7 : slO (lst n.list) = n := by rw [hnl, lst_lst]; exact hn
    rw [show leastF ltB (needF n.list) n.list [] = lst n.list from rfl, e7] at h7
    have h9 := r_Same n n hno rfl
    have hln : n.list.length ≤ l.list.length := by rw [hnl]; exact hnn
    generalize hasF l.list s = b at h3 h4
    refine Runs.told (fn := Try.f5) (n := 75) [(0, .val (slV VV.str l)), (1, .val (.str s)), (2, .val (.int .u8 (f : Nat)))] [(0, .gone 0), (1, .gone 0), (2, .gone 0)] rfl Try.func5 rfl rfl (by kernel_rfl) rfl (by repeat' constructor) (by repeat' constructor) ?_
    repeat' (first
      | intro _
      | refine Ws ?_
      | (refine Wt ?_ ?_ <;> intro _ <;> try (exfalso; omega))
      | (refine Wu ?_ ?_ <;> intro _)
      | refine Wo.callAt r_awake ?_
      | refine Wo.call0 (h1) ?_
      | refine Wo.call0 (h2) ?_
      | refine Wv ?_
      | refine Wz ?_
      | fail)
    refine Wx.loop [0, 1, 2, 6, 7, 39, 40, 41, 42, 43, 44, 45, 46, 47, 48, 49, 50, 51, 52, 53, 54, 55, 56, 57, 58, 59, 60, 61, 62, 63, 64, 65, 66, 67, 68, 69, 70, 71, 72, 73, 74] [1, 2, 10, 14, 17, 19, 41, 44, 49, 54, 58, 60, 64, 66] (fun (i, e, g, r, m) => [(9, .val (iv (i : Nat))), (8, bif e then .val .nils else .own 38 g 0 m 1)]) (fun (i, e, g, r, m) => [(0, .gone 0), ((bif e then 0 else 38), bif e then .gone 0 else .row g (r.map VV.str) 1 false)]) (fun (i, e, g, r, m) => (i ≤ l.list.length ∧ m = r.length ∧ m = i) ∧ (∀ j, j < i → r[j]? = l.list[(j + f) % l.list.length]?) ∧ (e = true → r = []) ∧ (e = false → r ≠ [])) (fun (i, e, g, r, m) => l.list.length - i) (0, true, 0, ([] : List ByteArray), 0) ⟨⟨Nat.zero_le _, rfl, rfl⟩, fun j hj => absurd hj (by omega), fun _ => rfl, fun h => (by cases h)⟩ (fun a x y hG => ?_)
    obtain ⟨i, e, g, r, m⟩ := a
    obtain ⟨g3, g4, g5, g6⟩ := hG
    dsimp only [List.cons_append, List.nil_append]
    obtain ⟨hi0, hm, hmi⟩ := g3
    subst hm
    have e1 : List.take r.length r = r := List.take_length
    rcases Nat.lt_or_ge i l.list.length with hi | hi
    · have hq : (i + f) % l.list.length < l.list.length := Nat.mod_lt _ (by omega)
      obtain ⟨z, hz⟩ := at_some hq
      have e2 : IntKind.i64.wrap (↑i + IntKind.i64.wrap ↑f) = ((i + f : Nat) : Int) := by
        simp only [IntKind.wrap, IntKind.bits, IntKind.signed]
        simp; omega
      have e3 : ((i + f : Nat) : Int).tmod (l.list.length : Nat) = (((i + f) % l.list.length : Nat) : Int) := by
        rw [Int.tmod_eq_emod_of_nonneg (by omega)]; rfl
      cases e
      · repeat' (first
          | intro _
          | refine Ws ?_
          | (refine Wt ?_ ?_ <;> intro _ <;> try (exfalso; omega))
          | (refine Wu ?_ ?_ <;> intro _)
          | refine Wv ?_
          | refine Wz ?_
          | fail)
        rw [e2]
        refine Wo.rem ?_
        rw [e3]
        repeat' (first
          | intro _
          | refine Ws ?_
          | (refine Wt ?_ ?_ <;> intro _ <;> try (exfalso; omega))
          | (refine Wu ?_ ?_ <;> intro _)
          | refine Wv ?_
          | refine Wz ?_
          | fail)
        rw [e1]
        exact Rd (i + 1, false, _, r ++ [z], r.length + 1) (by dsimp only; omega) ⟨⟨by dsimp only; omega, by simp, by dsimp only; omega⟩, (fun j hj => (by
          dsimp only at hj ⊢
          by_cases hj2 : j < i
          · rw [List.getElem?_append_left (by omega)]; exact g4 j hj2
          · have : j = i := by omega
            subst this
            rw [List.getElem?_append_right (by omega), hz, hmi]; simp)), (fun h => (by cases h)), (fun _ => (by simp))⟩
      · have hr0 := g5 rfl
        subst hr0
        have hi00 : i = 0 := hmi.symm
        repeat' (first
          | intro _
          | refine Ws ?_
          | (refine Wt ?_ ?_ <;> intro _ <;> try (exfalso; omega))
          | (refine Wu ?_ ?_ <;> intro _)
          | refine Wv ?_
          | refine Wz ?_
          | fail)
        rw [e2]
        refine Wo.rem ?_
        rw [e3]
        repeat' (first
          | intro _
          | refine Ws ?_
          | (refine Wt ?_ ?_ <;> intro _ <;> try (exfalso; omega))
          | (refine Wu ?_ ?_ <;> intro _)
          | refine Wo.app1n (enc := VV.str) okStr (fun g4 => ?_)
          | refine Wv ?_
          | refine Wz ?_
          | fail)
        exact Rd (i + 1, false, _, [z], 1) (by dsimp only; omega) ⟨⟨by dsimp only; omega, rfl, by dsimp only; omega⟩, (fun j hj => (by
          dsimp only at hj ⊢
          have : j = i := by omega
          subst this
          rw [hz, hi00]; rfl)), (fun h => (by cases h)), (fun _ => (by simp))⟩
    · have hil : i = l.list.length := by omega
      cases e
      · have hmem : ∀ z, z ∈ r ↔ z ∈ l.list := turn_mem (by omega) fun j hj => g4 j (by omega)
        have hrr : rightF r = true := by rw [right_same hmem (by omega)]; exact hr
        have h10 := r_Normal (some r) (by unfold Sl.ok; show r.length ≤ _; omega) hrr
        rw [show leastF ltB (needF (Sl.list (some r))) (Sl.list (some r)) [] = lst l.list from lst_same hmem, hn] at h10
        obtain ⟨a, n', hn'⟩ : ∃ a n', n = some (a :: n') := by
          obtain ⟨q, hq, hq2, _⟩ := need_cov hr _ (r[0]'(List.length_pos_iff.2 (g6 rfl))) ((hmem _).1 (List.getElem_mem _)) rfl
          have h11 : q ∈ lst l.list := lst_mem.2 ⟨hq, hq2⟩
          have h12 : lst l.list ≠ [] := fun e => by rw [e] at h11; cases h11
          rw [← hn, slO_ne h12]
          cases hx : lst l.list with
          | nil => exact absurd hx h12
          | cons a n' => exact ⟨a, n', rfl⟩
        subst hn'
        cases b
        all_goals
          repeat' (first
            | intro _
            | refine Ws ?_
            | (refine Wt ?_ ?_ <;> intro _ <;> try (exfalso; omega))
            | (refine Wu ?_ ?_ <;> intro _)
            | refine Wo.call0 (h3) ?_
            | refine Wo.call0 (h4) ?_
            | refine Wo.call0 (h5) ?_
            | refine Wo.call0 (h6) ?_
            | refine Wo.call0 (h7) ?_
            | refine Wo.call0 (h9) ?_
            | refine Wo.callGL h10 ?_
            | refine Wv ?_
            | refine Wz ?_
            | fail)
          all_goals first
            | rfl
            | trace_state
      · have hr0 := g5 rfl
        subst hr0
        have hl0 : l.list = [] := List.length_eq_zero_iff.1 (by rw [← hil]; exact hmi.symm)
        have h10 := r_Normal none (by unfold Sl.ok; show 0 ≤ _; omega) rfl
        have e10 : slO (leastF ltB (needF (Sl.list (none : Sl ByteArray))) (Sl.list (none : Sl ByteArray)) []) = n := by rw [← hn, hl0]; rfl
        rw [e10] at h10
        cases b
        all_goals
          repeat' (first
            | intro _
            | refine Ws ?_
            | (refine Wt ?_ ?_ <;> intro _ <;> try (exfalso; omega))
            | (refine Wu ?_ ?_ <;> intro _)
            | refine Wo.call0 (h3) ?_
            | refine Wo.call0 (h4) ?_
            | refine Wo.call0 (h5) ?_
            | refine Wo.call0 (h6) ?_
            | refine Wo.call0 (h7) ?_
            | refine Wo.call0 (h9) ?_
            | refine Wo.call0 (h10) ?_
            | refine Wv ?_
            | refine Wz ?_
            | fail)
          all_goals first
            | rfl
            | trace_state
theorem u8_of {n : Int} (h : (Lit.int .u8 n).wf = true) : 0 ≤ n ∧ n < 256 := by
  simp only [Lit.wf, Bool.and_eq_true, decide_eq_true_eq] at h
  have h1 : (0 : Int) ≤ n := h.1
  have h2 : n ≤ 255 := h.2
  omega
theorem r_FilterNormalI (l : Sl ByteArray) (s : ByteArray) (n : Int) (hn : 0 ≤ n ∧ n < 256) (hl : Sl.ok l) (H : Hp) (hH : H = Hp.bare 0) : Runs Try.prog pol 5 [.val (slV VV.str l), .val (.str s), .val (.int .u8 n)] H ([.val (.bool true)], [], H) := by
  obtain ⟨f, rfl⟩ := Int.eq_ofNat_of_zero_le hn.1
  exact r_FilterNormal l s f (by omega) hl H hH
end Go.Vi.CYtnloddhadlpajaa
