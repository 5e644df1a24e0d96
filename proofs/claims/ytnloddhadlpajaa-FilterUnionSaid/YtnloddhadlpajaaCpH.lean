/-
  Filters: what they have, which cover one another, which meet.
-/
import Derived.Test.YtnloddhadlpajaaCpG
namespace Go.Vi.CYtnloddhadlpajaa
open Go.Vi Go.Proofs Go.Proofs.Ytnloddhadlpajaa
set_option linter.unusedVariables false
set_option maxHeartbeats 4000000
set_option maxRecDepth 100000
set_option linter.unusedSimpArgs false

def hasF (l : List ByteArray) (s : ByteArray) : Bool := rightF l && l.any fun p => matchB p s
theorem r_Has1 (p s : ByteArray) (H : Hp) : Runs Try.prog pol 28 [.val (.str p), .val (.elt [.agg [.str s]] 0 0)] H ([.val (.bool (matchB p s))], [], H) := by
  refine Runs.told (fn := Try.f28) (n := 7) [(0, .val (.str p)), (1, .val (.elt [.agg [.str s]] 0 0))] [(0, .gone 0), (1, .gone 0)] rfl Try.func28 rfl rfl (by kernel_rfl) rfl (by repeat' constructor) (by repeat' constructor) ?_
  repeat' (first
    | intro _
    | refine Ws ?_
    | (refine Wt ?_ ?_ <;> intro _ <;> try (exfalso; omega))
    | (refine Wu ?_ ?_ <;> intro _)
    | refine Wo.call0 (r_Match p s) ?_
    | refine Wv ?_
    | refine Wz ?_
    | fail)
  all_goals rfl
theorem r_Has (l : Sl ByteArray) (hl : Sl.ok l) (s : ByteArray) (H : Hp) : Runs Try.prog pol 12 [.val (slV VV.str l), .val (.str s)] H ([.val (.bool (hasF l.list s))], [], H) := by
  have h1 := r_some l hl 28 [.elt [.agg [.str s]] 0 0] (fun p => matchB p s) (fun p _ => r_Has1 p s)
  refine Runs.told (fn := Try.f12) (n := 12) [(0, .val (slV VV.str l)), (1, .val (.str s))] [(0, .gone 0), (1, .gone 0)] rfl Try.func12 rfl rfl (by kernel_rfl) rfl (by repeat' constructor) (by repeat' constructor) ?_
  repeat' (first
    | intro _
    | refine Ws ?_
    | (refine Wt ?_ ?_ <;> intro _ <;> try (exfalso; omega))
    | (refine Wu ?_ ?_ <;> intro _)
    | refine Wo.callB (r_right l hl) (fun _ => ?_) (fun _ => ?_)
    | refine Wo.call0 (h1) ?_
    | refine Wv ?_
    | refine Wz ?_
    | fail)
  all_goals (simp [hasF, *]; done)
def coversF (a b : List ByteArray) : Bool := rightF a && rightF b && b.all fun q => a.any fun p => coversB p q
theorem r_Covers11 (p q : ByteArray) (H : Hp) : Runs Try.prog pol 35 [.val (.str p), .val (.elt [.agg [.str q]] 0 0)] H ([.val (.bool (coversB p q))], [], H) := by
  refine Runs.told (fn := Try.f35) (n := 7) [(0, .val (.str p)), (1, .val (.elt [.agg [.str q]] 0 0))] [(0, .gone 0), (1, .gone 0)] rfl Try.func35 rfl rfl (by kernel_rfl) rfl (by repeat' constructor) (by repeat' constructor) ?_
  repeat' (first
    | intro _
    | refine Ws ?_
    | (refine Wt ?_ ?_ <;> intro _ <;> try (exfalso; omega))
    | (refine Wu ?_ ?_ <;> intro _)
    | refine Wo.call0 (r_Covers p q) ?_
    | refine Wv ?_
    | refine Wz ?_
    | fail)
  all_goals rfl
theorem r_FCovers1 (a : Sl ByteArray) (ha : Sl.ok a) (q : ByteArray) (H : Hp) : Runs Try.prog pol 34 [.val (.str q), .val (.elt [.agg [slV VV.str a]] 0 0)] H ([.val (.bool (!(a.list.any fun p => coversB p q)))], [], H) := by
  have h1 := r_some a ha 35 [.elt [.agg [.str q]] 0 0] (fun p => coversB p q) (fun p _ => r_Covers11 p q)
  refine Runs.told (fn := Try.f34) (n := 8) [(0, .val (.str q)), (1, .val (.elt [.agg [slV VV.str a]] 0 0))] [(0, .gone 0), (1, .gone 0)] rfl Try.func34 rfl rfl (by kernel_rfl) rfl (by repeat' constructor) (by repeat' constructor) ?_
  repeat' (first
    | intro _
    | refine Ws ?_
    | (refine Wt ?_ ?_ <;> intro _ <;> try (exfalso; omega))
    | (refine Wu ?_ ?_ <;> intro _)
    | refine Wo.callB (h1) (fun _ => ?_) (fun _ => ?_)
    | refine Wv ?_
    | refine Wz ?_
    | fail)
  all_goals first
    | (simp [*]; done)
    | trace_state
theorem r_FCovers (a b : Sl ByteArray) (ha : Sl.ok a) (hb : Sl.ok b) (H : Hp) : Runs Try.prog pol 17 [.val (slV VV.str a), .val (slV VV.str b)] H ([.val (.bool (coversF a.list b.list))], [], H) := by
  have h1 := r_some b hb 34 [.elt [.agg [slV VV.str a]] 0 0] (fun q => !(a.list.any fun p => coversB p q)) (fun q _ => r_FCovers1 a ha q)
  have e : (!(b.list.any fun q => !(a.list.any fun p => coversB p q))) = b.list.all fun q => a.list.any fun p => coversB p q := by
    rw [List.all_eq_not_any_not]
  unfold coversF
  rw [← e]
  refine Runs.told (fn := Try.f17) (n := 17) [(0, .val (slV VV.str a)), (1, .val (slV VV.str b))] [(0, .gone 0), (1, .gone 0)] rfl Try.func17 rfl rfl (by kernel_rfl) rfl (by repeat' constructor) (by repeat' constructor) ?_
  repeat' (first
    | intro _
    | refine Wo.boxS (fun _ => ?_)
    | refine Ws ?_
    | (refine Wt ?_ ?_ <;> intro _ <;> try (exfalso; omega))
    | (refine Wu ?_ ?_ <;> intro _)
    | refine Wo.callB (r_right a ha) (fun _ => ?_) (fun _ => ?_)
    | refine Wo.callB (r_right b hb) (fun _ => ?_) (fun _ => ?_)
    | refine Wo.callB (h1) (fun _ => ?_) (fun _ => ?_)
    | refine Wv ?_
    | refine Wz ?_
    | fail)
  all_goals first
    | (simp only [*]; done)
    | (simp only [*]; rfl)
    | trace_state
def meetFF (a b : List ByteArray) : Bool := rightF a && rightF b && a.any fun p => b.any fun q => meetsB p q
theorem r_Meet11 (p q : ByteArray) (H : Hp) : Runs Try.prog pol 39 [.val (.str q), .val (.elt [.agg [.str p]] 0 0)] H ([.val (.bool (meetsB p q))], [], H) := by
  refine Runs.told (fn := Try.f39) (n := 7) [(0, .val (.str q)), (1, .val (.elt [.agg [.str p]] 0 0))] [(0, .gone 0), (1, .gone 0)] rfl Try.func39 rfl rfl (by kernel_rfl) rfl (by repeat' constructor) (by repeat' constructor) ?_
  repeat' (first
    | intro _
    | refine Ws ?_
    | (refine Wt ?_ ?_ <;> intro _ <;> try (exfalso; omega))
    | (refine Wu ?_ ?_ <;> intro _)
    | refine Wo.call0 (r_Meets p q) ?_
    | refine Wv ?_
    | refine Wz ?_
    | fail)
  all_goals rfl
theorem r_FMeet1 (b : Sl ByteArray) (hb : Sl.ok b) (p : ByteArray) (H : Hp) : Runs Try.prog pol 38 [.val (.str p), .val (.elt [.agg [slV VV.str b]] 0 0)] H ([.val (.bool (b.list.any fun q => meetsB p q))], [], H) := by
  have h1 := r_some b hb 39 [.elt [.agg [.str p]] 0 0] (fun q => meetsB p q) (fun q _ => r_Meet11 p q)
  refine Runs.told (fn := Try.f38) (n := 7) [(0, .val (.str p)), (1, .val (.elt [.agg [slV VV.str b]] 0 0))] [(0, .gone 0), (1, .gone 0)] rfl Try.func38 rfl rfl (by kernel_rfl) rfl (by repeat' constructor) (by repeat' constructor) ?_
  repeat' (first
    | intro _
    | refine Ws ?_
    | (refine Wt ?_ ?_ <;> intro _ <;> try (exfalso; omega))
    | (refine Wu ?_ ?_ <;> intro _)
    | refine Wo.call0 (h1) ?_
    | refine Wv ?_
    | refine Wz ?_
    | fail)
  all_goals rfl
theorem r_FMeet (a b : Sl ByteArray) (ha : Sl.ok a) (hb : Sl.ok b) (H : Hp) : Runs Try.prog pol 19 [.val (slV VV.str a), .val (slV VV.str b)] H ([.val (.bool (meetFF a.list b.list))], [], H) := by
  have h1 := r_some a ha 38 [.elt [.agg [slV VV.str b]] 0 0] (fun p => b.list.any fun q => meetsB p q) (fun p _ => r_FMeet1 b hb p)
  refine Runs.told (fn := Try.f19) (n := 16) [(0, .val (slV VV.str a)), (1, .val (slV VV.str b))] [(0, .gone 0), (1, .gone 0)] rfl Try.func19 rfl rfl (by kernel_rfl) rfl (by repeat' constructor) (by repeat' constructor) ?_
  repeat' (first
    | intro _
    | refine Wo.boxS (fun _ => ?_)
    | refine Ws ?_
    | (refine Wt ?_ ?_ <;> intro _ <;> try (exfalso; omega))
    | (refine Wu ?_ ?_ <;> intro _)
    | refine Wo.callB (r_right a ha) (fun _ => ?_) (fun _ => ?_)
    | refine Wo.callB (r_right b hb) (fun _ => ?_) (fun _ => ?_)
    | refine Wo.call0 (h1) ?_
    | refine Wv ?_
    | refine Wz ?_
    | fail)
  all_goals first
    | (simp only [meetFF, *]; done)
    | (simp only [meetFF, *]; rfl)
    | trace_state
theorem r_RHas (l : Sl ByteArray) (hl : Sl.ok l) (s : ByteArray) (H : Hp) : Runs Try.prog pol 15 [.val (slV VV.str l), .val (.str s)] H ([.val (.bool (hasF l.list s))], [], H) := by
  have hl' := hl
  unfold Sl.ok at hl
  refine Runs.told (fn := Try.f15) (n := 27) [(0, .val (slV VV.str l)), (1, .val (.str s))] [(0, .gone 0), (1, .gone 0)] rfl Try.func15 rfl rfl (by kernel_rfl) rfl (by repeat' constructor) (by repeat' constructor) ?_
  repeat' (first
    | intro _
    | refine Ws ?_
    | (refine Wt ?_ ?_ <;> intro _ <;> try (exfalso; omega))
    | (refine Wu ?_ ?_ <;> intro _)
    | refine Wv ?_
    | refine Wz ?_
    | fail)
  refine Wx.loop [0, 1, 4, 22, 23, 24, 25, 26] [0, 1, 25] (fun (k, e) => [(6, .val (iv (k : Nat))), (5, .val (.bool e))]) (fun (k, e) => []) (fun (k, e) => (k ≤ l.list.length) ∧ (or e ((l.list.drop k).any fun p => matchB p s)) = l.list.any fun p => matchB p s) (fun (k, e) => l.list.length - k) (0, false) ⟨Nat.zero_le _, rfl⟩ (fun a x y hG => ?_)
  obtain ⟨k, e⟩ := a
  obtain ⟨h1, h2⟩ := hG
  dsimp only [List.cons_append, List.nil_append]
  rcases Nat.lt_or_ge k l.list.length with hk | hk
  · obtain ⟨z, hz⟩ := at_some hk
    rw [drop_at hz, List.any_cons] at h2
    cases e
    · have hRz := r_RMatch z s
      repeat' (first
        | intro _
        | refine Ws ?_
        | (refine Wt ?_ ?_ <;> intro _ <;> try (exfalso; omega))
        | (refine Wu ?_ ?_ <;> intro _)
        | refine Wo.call0 (hRz) ?_
        | refine Wv ?_
        | refine Wz ?_
        | fail)
      exact Rd (k + 1, matchB z s) (by dsimp only; omega) ⟨by dsimp only; omega, by rw [← h2]; rfl⟩
    · repeat' (first
        | intro _
        | refine Ws ?_
        | (refine Wt ?_ ?_ <;> intro _ <;> try (exfalso; omega))
        | (refine Wu ?_ ?_ <;> intro _)
        | refine Wv ?_
        | refine Wz ?_
        | fail)
      exact Rd (k + 1, true) (by dsimp only; omega) ⟨by dsimp only; omega, by rw [← h2]; rfl⟩
  · rw [List.drop_eq_nil_of_le hk, List.any_nil, Bool.or_false] at h2
    unfold hasF
    rw [← h2]
    cases e
    · repeat' (first
        | intro _
        | refine Ws ?_
        | (refine Wt ?_ ?_ <;> intro _ <;> try (exfalso; omega))
        | (refine Wu ?_ ?_ <;> intro _)
        | refine Wv ?_
        | refine Wz ?_
        | fail)
      all_goals (simp; done)
    · repeat' (first
        | intro _
        | refine Ws ?_
        | (refine Wt ?_ ?_ <;> intro _ <;> try (exfalso; omega))
        | (refine Wu ?_ ?_ <;> intro _)
        | refine Wo.call0 (r_RRight l hl') ?_
        | refine Wv ?_
        | refine Wz ?_
        | fail)
      all_goals (simp; done)
end Go.Vi.CYtnloddhadlpajaa
