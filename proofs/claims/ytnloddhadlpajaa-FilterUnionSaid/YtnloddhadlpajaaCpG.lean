/-
  Filters: checked, what they have, which cover one another, which meet.
-/
import Derived.Test.YtnloddhadlpajaaCpF
namespace Go.Vi.CYtnloddhadlpajaa
open Go.Vi Go.Proofs Go.Proofs.Ytnloddhadlpajaa
set_option linter.unusedVariables false
set_option maxHeartbeats 4000000
set_option maxRecDepth 100000
set_option linter.unusedSimpArgs false

def chkBad (l : List ByteArray) (i : Nat) : Option Unit := match l[i]? with
  | some p => if patternB p then none else some ()
  | none => none
def chkR (l : List ByteArray) : Int × Int := if 8 < l.length then (0, 4) else match scan (chkBad l) l.length with
  | some (i, _) => ((i : Nat), 6)
  | none => (0, 0)
def rightF (l : List ByteArray) : Bool := decide ((chkR l).2 = 0)
theorem r_Check (l : Sl ByteArray) (hl : Sl.ok l) (H : Hp) : Runs Try.prog pol 8 [.val (slV VV.str l)] H ([.val (iv (chkR l.list).1), .val (iv (chkR l.list).2)], [], H) := by
  unfold Sl.ok at hl
  refine Runs.told (fn := Try.f8) (n := 21) [(0, .val (slV VV.str l))] [(0, .gone 0)] rfl Try.func8 rfl rfl (by kernel_rfl) rfl (by repeat' constructor) (by repeat' constructor) ?_
  repeat' (first
    | intro _
    | refine Ws ?_
    | (refine Wt ?_ ?_ <;> intro _ <;> try (exfalso; omega))
    | (refine Wu ?_ ?_ <;> intro _)
    | refine Wv ?_
    | refine Wz ?_
    | fail)
  · have hc : chkR l.list = (0, 4) := if_pos (by omega)
    rw [hc]
  · have h8 : ¬ 8 < l.list.length := by omega
    refine Wx.loop [9, 10] [0] (fun k => [(11, .val (iv (k : Nat)))]) (fun k => []) (fun k => k ≤ l.list.length ∧ ∀ j, j < k → chkBad l.list j = none) (fun k => l.list.length - k) 0 ⟨Nat.zero_le _, fun _ h => by omega⟩ (fun k x y hG => ?_)
    obtain ⟨h1, h2⟩ := hG
    dsimp only [List.cons_append, List.nil_append]
    rcases Nat.lt_or_ge k l.list.length with hk | hk
    · obtain ⟨z, hz⟩ := at_some hk
      repeat' (first
        | intro _
        | refine Ws ?_
        | (refine Wt ?_ ?_ <;> intro _ <;> try (exfalso; omega))
        | (refine Wu ?_ ?_ <;> intro _)
        | refine Wo.callB (r_Pattern z) (fun _ => ?_) (fun _ => ?_)
        | refine Wv ?_
        | refine Wz ?_
        | fail)
      all_goals first
        | exact Rd (k + 1) (by omega) ⟨by omega, none_succ h2 (by simp only [chkBad, hz]; rw [if_pos (by assumption)])⟩
        | (have hb := scan_found (p := chkBad l.list) (b := ()) h2 (by simp only [chkBad, hz]; rw [if_neg (by simp [*])]) (n := l.list.length) (by omega)
           simp [chkR, hb, h8]; done)
        | trace_state
    · repeat' (first
        | intro _
        | refine Ws ?_
        | (refine Wt ?_ ?_ <;> intro _ <;> try (exfalso; omega))
        | (refine Wu ?_ ?_ <;> intro _)
        | refine Wv ?_
        | refine Wz ?_
        | fail)
      all_goals
        have hb := scan_none (p := chkBad l.list) (n := l.list.length) (fun j hj => h2 j (by omega))
        simp [chkR, hb, h8]
theorem r_RCheck (l : Sl ByteArray) (hl : Sl.ok l) (H : Hp) : Runs Try.prog pol 9 [.val (slV VV.str l)] H ([.val (iv (chkR l.list).1), .val (iv (chkR l.list).2)], [], H) := by
  unfold Sl.ok at hl
  refine Runs.told (fn := Try.f9) (n := 21) [(0, .val (slV VV.str l))] [(0, .gone 0)] rfl Try.func9 rfl rfl (by kernel_rfl) rfl (by repeat' constructor) (by repeat' constructor) ?_
  repeat' (first
    | intro _
    | refine Ws ?_
    | (refine Wt ?_ ?_ <;> intro _ <;> try (exfalso; omega))
    | (refine Wu ?_ ?_ <;> intro _)
    | refine Wv ?_
    | refine Wz ?_
    | fail)
  · have hc : chkR l.list = (0, 4) := if_pos (by omega)
    rw [hc]
  · have h8 : ¬ 8 < l.list.length := by omega
    refine Wx.loop [0] [0] (fun (k, e) => [(4, .val (iv (k : Nat)))]) (fun (k, e) => []) (fun (k, e) => (k ≤ l.list.length ∧ e = ()) ∧ ∀ j, j < k → chkBad l.list j = none) (fun (k, e) => l.list.length - k) (0, ()) ⟨⟨Nat.zero_le _, rfl⟩, fun j hj => absurd hj (by omega)⟩ (fun a x y hG => ?_)
    obtain ⟨k, e⟩ := a
    obtain ⟨h1, h2⟩ := hG
    dsimp only [List.cons_append, List.nil_append]
    rcases Nat.lt_or_ge k l.list.length with hk | hk
    · obtain ⟨z, hz⟩ := at_some hk
      repeat' (first
        | intro _
        | refine Ws ?_
        | (refine Wt ?_ ?_ <;> intro _ <;> try (exfalso; omega))
        | (refine Wu ?_ ?_ <;> intro _)
        | refine Wo.callB (r_RPattern z) (fun _ => ?_) (fun _ => ?_)
        | refine Wv ?_
        | refine Wz ?_
        | fail)
      all_goals first
        | exact Rd (k + 1, ()) (by dsimp only; omega) ⟨⟨by dsimp only; omega, rfl⟩, none_succ h2 (by simp only [chkBad, hz]; rw [if_pos (by assumption)])⟩
        | (have hb := scan_found (p := chkBad l.list) (b := ()) h2 (by simp only [chkBad, hz]; rw [if_neg (by simp [*])]) (n := l.list.length) (by omega)
           simp [chkR, hb, h8]; done)
        | trace_state
    · repeat' (first
        | intro _
        | refine Ws ?_
        | (refine Wt ?_ ?_ <;> intro _ <;> try (exfalso; omega))
        | (refine Wu ?_ ?_ <;> intro _)
        | refine Wv ?_
        | refine Wz ?_
        | fail)
      all_goals
        have hb := scan_none (p := chkBad l.list) (n := l.list.length) (fun j hj => h2 j (by omega))
        simp [chkR, hb, h8]
theorem r_right (l : Sl ByteArray) (hl : Sl.ok l) (H : Hp) : Runs Try.prog pol 25 [.val (slV VV.str l)] H ([.val (.bool (rightF l.list))], [], H) := by
  refine Runs.told (fn := Try.f25) (n := 12) [(0, .val (slV VV.str l))] [(0, .gone 0)] rfl Try.func25 rfl rfl (by kernel_rfl) rfl (by repeat' constructor) (by repeat' constructor) ?_
  repeat' (first
    | intro _
    | refine Ws ?_
    | (refine Wt ?_ ?_ <;> intro _ <;> try (exfalso; omega))
    | (refine Wu ?_ ?_ <;> intro _)
    | refine Wo.call0 (r_Check _ hl) ?_
    | refine Wv ?_
    | refine Wz ?_
    | fail)
  all_goals (simp [rightF, *]; done)
theorem r_RRight (l : Sl ByteArray) (hl : Sl.ok l) (H : Hp) : Runs Try.prog pol 21 [.val (slV VV.str l)] H ([.val (.bool (rightF l.list))], [], H) := by
  refine Runs.told (fn := Try.f21) (n := 12) [(0, .val (slV VV.str l))] [(0, .gone 0)] rfl Try.func21 rfl rfl (by kernel_rfl) rfl (by repeat' constructor) (by repeat' constructor) ?_
  repeat' (first
    | intro _
    | refine Ws ?_
    | (refine Wt ?_ ?_ <;> intro _ <;> try (exfalso; omega))
    | (refine Wu ?_ ?_ <;> intro _)
    | refine Wo.call0 (r_RCheck _ hl) ?_
    | refine Wv ?_
    | refine Wz ?_
    | fail)
  all_goals (simp [rightF, *]; done)
theorem r_few (l : Sl ByteArray) (hl : Sl.ok l) : ∃ l2 : Sl ByteArray, l2.list.length ≤ 40 ∧ ∀ H, Runs Try.prog pol 16 [.val (slV VV.str l)] H ([.val (slV VV.str l2)], [], H) := by
  unfold Sl.ok at hl
  rcases Nat.lt_or_ge 40 l.list.length with h | h
  · refine ⟨l.map fun l => (l.take (40 : Int).toNat).drop 0, by rw [Sl.list_cut]; simp; omega, fun H => ?_⟩
    refine Runs.told (fn := Try.f16) (n := 9) [(0, .val (slV VV.str l))] [(0, .gone 0)] rfl Try.func16 rfl rfl (by kernel_rfl) rfl (by repeat' constructor) (by repeat' constructor) ?_
    repeat' (first
      | intro _
      | refine Wo.cutHiS ?_
      | refine Ws ?_
      | (refine Wt ?_ ?_ <;> intro _ <;> try (exfalso; omega))
      | (refine Wu ?_ ?_ <;> intro _)
      | refine Wv ?_
      | refine Wz ?_
      | fail)
    all_goals rfl
  · refine ⟨l, h, fun H => ?_⟩
    refine Runs.told (fn := Try.f16) (n := 9) [(0, .val (slV VV.str l))] [(0, .gone 0)] rfl Try.func16 rfl rfl (by kernel_rfl) rfl (by repeat' constructor) (by repeat' constructor) ?_
    repeat' (first
      | intro _
      | refine Ws ?_
      | (refine Wt ?_ ?_ <;> intro _ <;> try (exfalso; omega))
      | (refine Wu ?_ ?_ <;> intro _)
      | refine Wv ?_
      | refine Wz ?_
      | fail)
    all_goals rfl
theorem r_some (l : Sl ByteArray) (hl : Sl.ok l) (fn : FuncId) (cap : List VV) (R : ByteArray → Bool) (hR : ∀ p, p ∈ l.list → ∀ H, Runs Try.prog pol fn ([.val (.str p)] ++ cap.map .val) H ([.val (.bool (R p))], [], H))
    (H : Hp) : Runs Try.prog pol 27 [.val (slV VV.str l), .val (.func fn [] cap)] H ([.val (.bool (l.list.any R))], [], H) := by
  unfold Sl.ok at hl
  refine Runs.told (fn := Try.f27) (n := 17) [(0, .val (slV VV.str l)), (1, .val (.func fn [] cap))] [(0, .gone 0), (1, .gone 0)] rfl Try.func27 rfl rfl (by kernel_rfl) rfl (by repeat' constructor) (by repeat' constructor) ?_
  repeat' (first
    | intro _
    | refine Ws ?_
    | (refine Wt ?_ ?_ <;> intro _ <;> try (exfalso; omega))
    | (refine Wu ?_ ?_ <;> intro _)
    | refine Wv ?_
    | refine Wz ?_
    | fail)
  refine Wx.loop [1, 7, 8] [0, 1] (fun k => [(9, .val (iv (k : Nat)))]) (fun k => []) (fun k => k ≤ l.list.length ∧ (l.list.drop k).any R = l.list.any R) (fun k => l.list.length - k) 0 ⟨Nat.zero_le _, rfl⟩ (fun k x y hG => ?_)
  obtain ⟨h1, h2⟩ := hG
  dsimp only [List.cons_append, List.nil_append]
  rcases Nat.lt_or_ge k l.list.length with hk | hk
  · obtain ⟨z, hz⟩ := at_some hk
    rw [drop_at hz, List.any_cons] at h2
    have hRz := hR z (List.mem_of_getElem? hz)
    repeat' (first
      | intro _
      | refine Ws ?_
      | (refine Wt ?_ ?_ <;> intro _ <;> try (exfalso; omega))
      | (refine Wu ?_ ?_ <;> intro _)
      | refine Wo.callB (hRz) (fun _ => ?_) (fun _ => ?_)
      | refine Wv ?_
      | refine Wz ?_
      | fail)
    all_goals first
      | exact Rd (k + 1) (by omega) ⟨by omega, by rw [← h2]; simp [*]⟩
      | (rw [← h2]; simp [*]; done)
      | trace_state
  · rw [List.drop_eq_nil_of_le hk] at h2
    repeat' (first
      | intro _
      | refine Ws ?_
      | (refine Wt ?_ ?_ <;> intro _ <;> try (exfalso; omega))
      | (refine Wu ?_ ?_ <;> intro _)
      | refine Wv ?_
      | refine Wz ?_
      | fail)
    all_goals (rw [← h2]; rfl)
end Go.Vi.CYtnloddhadlpajaa
