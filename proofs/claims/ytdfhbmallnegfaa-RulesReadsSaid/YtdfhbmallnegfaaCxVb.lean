/-
  Which variables and arguments an expression names: the walk of the program's answer.
-/
import Derived.Test.YtdfhbmallnegfaaCxV
namespace Go.Vi.CYtdfhbmallnegfaa
open Go.Vi Go.Proofs Go.Proofs.Ytdfhbmallnegfaa
set_option linter.unusedVariables false
set_option maxHeartbeats 8000000
set_option maxRecDepth 100000
set_option linter.unusedSimpArgs false

def usesAt (op most : Int) (l : List Ins) : Nat → Sl Bool
  | 0 => none
  | k + 1 => match l[k]? with
    | some x => if x.op = op then putU (usesAt op most l k) x.n most else usesAt op most l k
    | none => usesAt op most l k
theorem putL_len {es : List Bool} {n : Nat} : (putL es n).length = max es.length (n + 1) := by
  unfold putL
  rw [List.length_set, List.length_append, List.length_replicate]; omega
theorem putU_some {V : List Bool} {n m : Int} : putU (some V) n m = some (if n < 0 ∨ m ≤ n then V else putL V n.toNat) := by
  unfold putU; split <;> rfl
theorem put_len6 {V : List Bool} {n m : Int} (h : V.length ≤ 6) (hm : m ≤ 6) : (if n < 0 ∨ m ≤ n then V else putL V n.toNat).length ≤ 6 := by
  split
  · exact h
  · rw [putL_len]; omega
theorem r_Uses (s : Sl Ins) (hs : codeOk s) (H : Hp) : Runs Try.prog pol 37 [.val (slV insV s)] H ([.val (slV VV.bool (usesAt 2 6 s.list s.list.length)), .val (slV VV.bool (usesAt 3 4 s.list s.list.length))], [], H) := by
  have hl := hs.1
  unfold Sl.ok at hl
  refine Runs.told (fn := Try.f37) (n := 34) [(0, .val (slV insV s))] [(0, .gone 0)] rfl Try.func37 rfl rfl (by kernel_rfl) rfl (by repeat' constructor) (by repeat' constructor) ?_
  refine Wx.tellT 23 (.gone 0) ?_
  refine Wx.tellT 30 (.gone 0) ?_
  repeat' (first
    | intro _
    | refine Ws ?_
    | (refine Wt ?_ ?_ <;> intro _ <;> try (exfalso; omega))
    | (refine Wu ?_ ?_ <;> intro _)
    | refine Wv ?_
    | refine Wz ?_
    | fail)
  refine Wx.loop [2, 3, 6, 9, 10, 32, 33] [0] (fun (k, ev, gv, V, mv, ea, ga, A, ma) => [(11, .val (iv (k : Nat))), (4, bif ev then .val .nils else .own 23 gv 0 mv 1), (5, bif ea then .val .nils else .own 30 ga 0 ma 1)]) (fun (k, ev, gv, V, mv, ea, ga, A, ma) => [(23, bif ev then .gone gv else .row gv (V.map VV.bool) 1 false), (30, bif ea then .gone ga else .row ga (A.map VV.bool) 1 false)]) (fun (k, ev, gv, V, mv, ea, ga, A, ma) => (k ≤ s.list.length ∧ mv = V.length ∧ ma = A.length ∧ V.length ≤ 6 ∧ A.length ≤ 6) ∧ usesAt 2 6 s.list k = (bif ev then none else some V) ∧ usesAt 3 4 s.list k = (bif ea then none else some A)) (fun (k, ev, gv, V, mv, ea, ga, A, ma) => s.list.length - k) (0, true, 0, ([] : List Bool), 0, true, 0, ([] : List Bool), 0) ⟨⟨Nat.zero_le _, rfl, rfl, Nat.zero_le _, Nat.zero_le _⟩, rfl, rfl⟩ (fun a x y hG => ?_)
  obtain ⟨k, ev, gv, V, mv, ea, ga, A, ma⟩ := a
  obtain ⟨h1, h2, h3⟩ := hG
  dsimp only [List.cons_append, List.nil_append]
  obtain ⟨h1, rfl, rfl, h4, h5⟩ := h1
  rcases Nat.lt_or_ge k s.list.length with hk | hk
  · obtain ⟨z, hz⟩ := at_some hk
    have hzo := hs.2 z (List.mem_of_getElem? hz)
    have hu2 : usesAt 2 6 s.list (k + 1) = if z.op = 2 then putU (usesAt 2 6 s.list k) z.n 6 else usesAt 2 6 s.list k := by simp only [usesAt, hz]
    have hu3 : usesAt 3 4 s.list (k + 1) = if z.op = 3 then putU (usesAt 3 4 s.list k) z.n 4 else usesAt 3 4 s.list k := by simp only [usesAt, hz]
    by_cases o2 : z.op = 2
    · rw [if_pos o2, h2] at hu2
      rw [if_neg (by omega), h3] at hu3
      cases ev <;> dsimp only [cond] at hu2 ⊢
      · have hp := r_put1 V z.n 6 hzo.2 h4 (by decide)
        repeat' (first
          | intro _
          | refine Ws ?_
          | (refine Wt ?_ ?_ <;> intro _ <;> try (exfalso; omega))
          | (refine Wu ?_ ?_ <;> intro _)
          | refine Wo.giveRow2 hp (fun _ => ?_)
          | refine Wv ?_
          | refine Wz ?_
          | fail)
        exact Rd (k + 1, false, _, (if z.n < 0 ∨ 6 ≤ z.n then V else putL V z.n.toNat), _, ea, ga, A, A.length) (by dsimp only; omega) ⟨⟨by dsimp only; omega, List.length_map _, rfl, put_len6 h4 (by decide), h5⟩, hu2.trans putU_some, hu3⟩
      · by_cases hn : z.n < 0 ∨ 6 ≤ z.n
        · repeat' (first
            | intro _
            | refine Ws ?_
            | (refine Wt ?_ ?_ <;> intro _ <;> try (exfalso; omega))
            | (refine Wu ?_ ?_ <;> intro _)
            | refine Wo.call0 (r_put0o z.n 6 hn) ?_
            | refine Wv ?_
            | refine Wz ?_
            | fail)
          exact Rd (k + 1, true, gv, V, V.length, ea, ga, A, A.length) (by dsimp only; omega) ⟨⟨by dsimp only; omega, rfl, rfl, h4, h5⟩, by rw [hu2, putU, if_pos hn], hu3⟩
        · repeat' (first
            | intro _
            | refine Ws ?_
            | (refine Wt ?_ ?_ <;> intro _ <;> try (exfalso; omega))
            | (refine Wu ?_ ?_ <;> intro _)
            | refine Wo.callO (r_put0 z.n 6 hzo.2 (by decide) hn) (fun _ => ?_)
            | refine Wv ?_
            | refine Wz ?_
            | fail)
          exact Rd (k + 1, false, _, putL [] z.n.toNat, _, ea, ga, A, A.length) (by dsimp only; omega) ⟨⟨by dsimp only; omega, List.length_map _, rfl, by dsimp only; rw [putL_len]; first | (simp; done) | (simp; omega), h5⟩, by rw [hu2, putU, if_neg hn]; rfl, hu3⟩
    · rw [if_neg o2, h2] at hu2
      by_cases o3 : z.op = 3
      · rw [if_pos o3, h3] at hu3
        cases ea <;> dsimp only [cond] at hu3 ⊢
        · have hp := r_put1 A z.n 4 hzo.2 h5 (by decide)
          repeat' (first
            | intro _
            | refine Ws ?_
            | (refine Wt ?_ ?_ <;> intro _ <;> try (exfalso; omega))
            | (refine Wu ?_ ?_ <;> intro _)
            | refine Wo.giveRow2 hp (fun _ => ?_)
            | refine Wv ?_
            | refine Wz ?_
            | fail)
          exact Rd (k + 1, ev, gv, V, V.length, false, _, (if z.n < 0 ∨ 4 ≤ z.n then A else putL A z.n.toNat), _) (by dsimp only; omega) ⟨⟨by dsimp only; omega, rfl, List.length_map _, h4, put_len6 h5 (by decide)⟩, hu2, hu3.trans putU_some⟩
        · by_cases hn : z.n < 0 ∨ 4 ≤ z.n
          · repeat' (first
              | intro _
              | refine Ws ?_
              | (refine Wt ?_ ?_ <;> intro _ <;> try (exfalso; omega))
              | (refine Wu ?_ ?_ <;> intro _)
              | refine Wo.call0 (r_put0o z.n 4 hn) ?_
              | refine Wv ?_
              | refine Wz ?_
              | fail)
            exact Rd (k + 1, ev, gv, V, V.length, true, ga, A, A.length) (by dsimp only; omega) ⟨⟨by dsimp only; omega, rfl, rfl, h4, h5⟩, hu2, by rw [hu3, putU, if_pos hn]⟩
          · repeat' (first
              | intro _
              | refine Ws ?_
              | (refine Wt ?_ ?_ <;> intro _ <;> try (exfalso; omega))
              | (refine Wu ?_ ?_ <;> intro _)
              | refine Wo.callO (r_put0 z.n 4 hzo.2 (by decide) hn) (fun _ => ?_)
              | refine Wv ?_
              | refine Wz ?_
              | fail)
            exact Rd (k + 1, ev, gv, V, V.length, false, _, putL [] z.n.toNat, _) (by dsimp only; omega) ⟨⟨by dsimp only; omega, rfl, List.length_map _, h4, by dsimp only; rw [putL_len]; first | (simp; done) | (simp; omega)⟩, hu2, by rw [hu3, putU, if_neg hn]; rfl⟩
      · rw [if_neg o3, h3] at hu3
        repeat' (first
          | intro _
          | refine Ws ?_
          | (refine Wt ?_ ?_ <;> intro _ <;> try (exfalso; omega))
          | (refine Wu ?_ ?_ <;> intro _)
          | refine Wv ?_
          | refine Wz ?_
          | fail)
        all_goals first
          | (exfalso; omega)
          | exact Rd (k + 1, ev, gv, V, V.length, ea, ga, A, A.length) (by dsimp only; omega) ⟨⟨by dsimp only; omega, rfl, rfl, h4, h5⟩, hu2, hu3⟩
          | trace_state
  · have hkk : k = s.list.length := by omega
    subst hkk
    rw [h2, h3]
    cases ev <;> cases ea <;> dsimp only [cond]
    · repeat' (first
        | intro _
        | refine Ws ?_
        | (refine Wt ?_ ?_ <;> intro _ <;> try (exfalso; omega))
        | (refine Wu ?_ ?_ <;> intro _)
        | refine Wv ?_
        | refine Wz ?_
        | fail)
      exact Wl.retF rfl
    · repeat' (first
        | intro _
        | refine Ws ?_
        | (refine Wt ?_ ?_ <;> intro _ <;> try (exfalso; omega))
        | (refine Wu ?_ ?_ <;> intro _)
        | refine Wv ?_
        | refine Wz ?_
        | fail)
      exact Wl.retF rfl
    · repeat' (first
        | intro _
        | refine Ws ?_
        | (refine Wt ?_ ?_ <;> intro _ <;> try (exfalso; omega))
        | (refine Wu ?_ ?_ <;> intro _)
        | refine Wv ?_
        | refine Wz ?_
        | fail)
      exact Wl.retF rfl
    · repeat' (first
        | intro _
        | refine Ws ?_
        | (refine Wt ?_ ?_ <;> intro _ <;> try (exfalso; omega))
        | (refine Wu ?_ ?_ <;> intro _)
        | refine Wv ?_
        | refine Wz ?_
        | fail)
      first
        | rfl
        | exact Wl.retF rfl
end Go.Vi.CYtdfhbmallnegfaa
