/-
  Which variables a rule names, and which it sets: the reference.
-/
import Derived.Test.YtdfhbmallnegfaaCxF
namespace Go.Vi.CYtdfhbmallnegfaa
open Go.Vi Go.Proofs Go.Proofs.Ytdfhbmallnegfaa
set_option linter.unusedVariables false
set_option maxHeartbeats 8000000
set_option maxRecDepth 100000
set_option linter.unusedSimpArgs false

def namesB (l : List Ins) (v : Int) : Bool := l.any fun x => decide (x.op = 2) && decide (x.n = v)
def readsB (r : Rl) (v : Int) : Bool := r.guards.list.any (fun g => namesB g.test.list v) || r.steps.list.any (fun s => s.sets.list.any fun x => namesB x.value.list v)
def writesB (r : Rl) (v : Int) : Bool := r.steps.list.any (fun s => s.sets.list.any fun x => decide (x.var = v))
theorem any_succ {α : Type} {l : List α} {p : α → Bool} {k : Nat} {o : α} (h : ∀ j, j < k → ∀ o, l[j]? = some o → p o = false) (ho : l[k]? = some o) (hp : p o = false) : ∀ j, j < k + 1 → ∀ o, l[j]? = some o → p o = false := fun j hj o' ho' => by
  rcases Nat.lt_or_ge j k with h1 | h1
  · exact h j h1 o' ho'
  · have : j = k := by omega
    subst this
    rw [ho] at ho'
    cases ho'
    exact hp
theorem r_Rnames (s : Sl Ins) (v : Int) (hs : codeOk s) (H : Hp) : Runs Try.prog pol 38 [.val (slV insV s), .val (iv v)] H ([.val (.bool (namesB s.list v))], [], H) := by
  have hl := hs.1
  unfold Sl.ok at hl
  refine Runs.told (fn := Try.f38) (n := 27) [(0, .val (slV insV s)), (1, .val (iv v))] [(0, .gone 0), (1, .gone 0)] rfl Try.func38 rfl rfl (by kernel_rfl) rfl (by repeat' constructor) (by repeat' constructor) ?_
  repeat' (first
    | intro _
    | refine Ws ?_
    | (refine Wt ?_ ?_ <;> intro _ <;> try (exfalso; omega))
    | (refine Wu ?_ ?_ <;> intro _)
    | refine Wv ?_
    | refine Wz ?_
    | fail)
  refine Wx.loop [0, 1] [0, 1] (fun k => [(5, .val (iv (k : Nat)))]) (fun k => []) (fun k => k ≤ s.list.length ∧ ∀ j, j < k → ∀ o, s.list[j]? = some o → (decide (o.op = 2) && decide (o.n = v)) = false) (fun k => s.list.length - k) 0 ⟨Nat.zero_le _, fun _ h => by omega⟩ (fun k x y hG => ?_)
  obtain ⟨h1, h2⟩ := hG
  dsimp only [List.cons_append, List.nil_append]
  rcases Nat.lt_or_ge k s.list.length with hk | hk
  · obtain ⟨z, hz⟩ := at_some hk
    repeat' (first
      | intro _
      | refine Ws ?_
      | (refine Wt ?_ ?_ <;> intro _ <;> try (exfalso; omega))
      | (refine Wu ?_ ?_ <;> intro _)
      | refine Wv ?_
      | refine Wz ?_
      | fail)
    all_goals first
      | exact Rd (k + 1) (by omega) ⟨by omega, any_succ h2 hz (by simp [*])⟩
      | (have h3 : namesB s.list v = true := any_found hz (by simp [*])
         rw [h3]; done)
      | trace_state
  · have h3 : namesB s.list v = false := any_full (fun j hj o ho => h2 j (by omega) o ho)
    repeat' (first
      | intro _
      | refine Ws ?_
      | (refine Wt ?_ ?_ <;> intro _ <;> try (exfalso; omega))
      | (refine Wu ?_ ?_ <;> intro _)
      | refine Wv ?_
      | refine Wz ?_
      | fail)
    rw [h3]
theorem r_RReads (r : Rl) (v : Int) (hr : r.ok) (H : Hp) : Runs Try.prog pol 25 [.val (rlV r), .val (iv v)] H ([.val (.bool (readsB r v))], [], H) := by
  obtain ⟨q1, q2, q3, ⟨q4, q5⟩, q6, q7⟩ := hr
  unfold Sl.ok at q4 q6
  refine Runs.told (fn := Try.f25) (n := 53) [(0, .val (rlV r)), (1, .val (iv v))] [(0, .gone 0), (1, .gone 0)] rfl Try.func25 rfl rfl (by kernel_rfl) rfl (by repeat' constructor) (by repeat' constructor) ?_
  repeat' (first
    | intro _
    | refine Ws ?_
    | (refine Wt ?_ ?_ <;> intro _ <;> try (exfalso; omega))
    | (refine Wu ?_ ?_ <;> intro _)
    | refine Wv ?_
    | refine Wz ?_
    | fail)
  refine Wx.loop [1, 2, 6, 7, 23, 24, 25, 26, 27, 28, 29, 30, 31, 32, 33, 34, 35, 36, 37, 38, 39, 40, 41, 42, 43, 44, 45, 46, 47, 48, 49, 50, 51, 52] [0, 1, 2, 52] (fun k => [(5, .val (iv (k : Nat)))]) (fun k => []) (fun k => k ≤ r.guards.list.length ∧ ∀ j, j < k → ∀ o, r.guards.list[j]? = some o → namesB o.test.list v = false) (fun k => r.guards.list.length - k) 0 ⟨Nat.zero_le _, fun _ h => by omega⟩ (fun k x y hG => ?_)
  obtain ⟨h1, h2⟩ := hG
  dsimp only [List.cons_append, List.nil_append]
  rcases Nat.lt_or_ge k r.guards.list.length with hk | hk
  · obtain ⟨z, hz⟩ := at_some hk
    have hzo := (q5 z (List.mem_of_getElem? hz)).2
    repeat' (first
      | intro _
      | refine Ws ?_
      | (refine Wt ?_ ?_ <;> intro _ <;> try (exfalso; omega))
      | (refine Wu ?_ ?_ <;> intro _)
      | refine Wo.callB (r_Rnames z.test v hzo) (fun _ => ?_) (fun _ => ?_)
      | refine Wv ?_
      | refine Wz ?_
      | fail)
    · have h3 : readsB r v = true := by
        unfold readsB
        rw [any_found hz (by assumption), Bool.true_or]
      rw [h3]
    · exact Rd (k + 1) (by omega) ⟨by omega, any_succ h2 hz (by assumption)⟩
  · have h3 : r.guards.list.any (fun g => namesB g.test.list v) = false := any_full (fun j hj o ho => h2 j (by omega) o ho)
    repeat' (first
      | intro _
      | refine Ws ?_
      | (refine Wt ?_ ?_ <;> intro _ <;> try (exfalso; omega))
      | (refine Wu ?_ ?_ <;> intro _)
      | refine Wv ?_
      | refine Wz ?_
      | fail)
    refine Wx.loop [1, 2] [0, 1, 2, 22] (fun i => [(6, .val (iv (i : Nat)))]) (fun i => []) (fun i => i ≤ r.steps.list.length ∧ ∀ j, j < i → ∀ o, r.steps.list[j]? = some o → (o.sets.list.any fun x => namesB x.value.list v) = false) (fun i => r.steps.list.length - i) 0 ⟨Nat.zero_le _, fun _ h => by omega⟩ (fun i x y hG => ?_)
    obtain ⟨h4, h5⟩ := hG
    dsimp only [List.cons_append, List.nil_append]
    rcases Nat.lt_or_ge i r.steps.list.length with hi | hi
    · obtain ⟨z, hz⟩ := at_some hi
      obtain ⟨⟨hz1, hz2⟩, hz3⟩ := q7 z (List.mem_of_getElem? hz)
      unfold Sl.ok at hz1
      repeat' (first
        | intro _
        | refine Ws ?_
        | (refine Wt ?_ ?_ <;> intro _ <;> try (exfalso; omega))
        | (refine Wu ?_ ?_ <;> intro _)
        | refine Wv ?_
        | refine Wz ?_
        | fail)
      refine Wx.loop [1, 2, 6, 23, 24, 25, 26, 27, 28, 29] [0, 1, 2, 22] (fun m => [(7, .val (iv (m : Nat)))]) (fun m => []) (fun m => m ≤ z.sets.list.length ∧ ∀ j, j < m → ∀ o, z.sets.list[j]? = some o → namesB o.value.list v = false) (fun m => z.sets.list.length - m) 0 ⟨Nat.zero_le _, fun _ h => by omega⟩ (fun m x y hG => ?_)
      obtain ⟨h6, h7⟩ := hG
      dsimp only [List.cons_append, List.nil_append]
      rcases Nat.lt_or_ge m z.sets.list.length with hm | hm
      · obtain ⟨c, hc⟩ := at_some hm
        have hco := (hz2 c (List.mem_of_getElem? hc)).2
        repeat' (first
          | intro _
          | refine Ws ?_
          | (refine Wt ?_ ?_ <;> intro _ <;> try (exfalso; omega))
          | (refine Wu ?_ ?_ <;> intro _)
          | refine Wo.callB (r_Rnames c.value v hco) (fun _ => ?_) (fun _ => ?_)
          | refine Wv ?_
          | refine Wz ?_
          | fail)
        · have h8 : readsB r v = true := by
            unfold readsB
            rw [h3, Bool.false_or]
            exact any_found hz (any_found hc (by assumption))
          rw [h8]
        · exact Rd (m + 1) (by omega) ⟨by omega, any_succ h7 hc (by assumption)⟩
      · have h8 : (z.sets.list.any fun x => namesB x.value.list v) = false := any_full (fun j hj o ho => h7 j (by omega) o ho)
        repeat' (first
          | intro _
          | refine Ws ?_
          | (refine Wt ?_ ?_ <;> intro _ <;> try (exfalso; omega))
          | (refine Wu ?_ ?_ <;> intro _)
          | refine Wv ?_
          | refine Wz ?_
          | fail)
        exact Rd (i + 1) (by omega) ⟨by omega, any_succ h5 hz h8⟩
    · have h8 : readsB r v = false := by
        unfold readsB
        rw [h3, Bool.false_or]
        exact any_full (fun j hj o ho => h5 j (by omega) o ho)
      repeat' (first
        | intro _
        | refine Ws ?_
        | (refine Wt ?_ ?_ <;> intro _ <;> try (exfalso; omega))
        | (refine Wu ?_ ?_ <;> intro _)
        | refine Wv ?_
        | refine Wz ?_
        | fail)
      rw [h8]
theorem r_RWrites (r : Rl) (v : Int) (hr : r.ok) (H : Hp) : Runs Try.prog pol 26 [.val (rlV r), .val (iv v)] H ([.val (.bool (writesB r v))], [], H) := by
  obtain ⟨q1, q2, q3, ⟨q4, q5⟩, q6, q7⟩ := hr
  unfold Sl.ok at q4 q6
  refine Runs.told (fn := Try.f26) (n := 37) [(0, .val (rlV r)), (1, .val (iv v))] [(0, .gone 0), (1, .gone 0)] rfl Try.func26 rfl rfl (by kernel_rfl) rfl (by repeat' constructor) (by repeat' constructor) ?_
  repeat' (first
    | intro _
    | refine Ws ?_
    | (refine Wt ?_ ?_ <;> intro _ <;> try (exfalso; omega))
    | (refine Wu ?_ ?_ <;> intro _)
    | refine Wv ?_
    | refine Wz ?_
    | fail)
  refine Wx.loop [1, 2] [0, 1, 2] (fun i => [(5, .val (iv (i : Nat)))]) (fun i => []) (fun i => i ≤ r.steps.list.length ∧ ∀ j, j < i → ∀ o, r.steps.list[j]? = some o → (o.sets.list.any fun x => decide (x.var = v)) = false) (fun i => r.steps.list.length - i) 0 ⟨Nat.zero_le _, fun _ h => by omega⟩ (fun i x y hG => ?_)
  obtain ⟨h4, h5⟩ := hG
  dsimp only [List.cons_append, List.nil_append]
  rcases Nat.lt_or_ge i r.steps.list.length with hi | hi
  · obtain ⟨z, hz⟩ := at_some hi
    obtain ⟨⟨hz1, hz2⟩, hz3⟩ := q7 z (List.mem_of_getElem? hz)
    unfold Sl.ok at hz1
    repeat' (first
      | intro _
      | refine Ws ?_
      | (refine Wt ?_ ?_ <;> intro _ <;> try (exfalso; omega))
      | (refine Wu ?_ ?_ <;> intro _)
      | refine Wv ?_
      | refine Wz ?_
      | fail)
    refine Wx.loop [1, 2, 5, 7, 8, 9, 10, 11, 12, 13] [0, 1, 2] (fun m => [(6, .val (iv (m : Nat)))]) (fun m => []) (fun m => m ≤ z.sets.list.length ∧ ∀ j, j < m → ∀ o, z.sets.list[j]? = some o → decide (o.var = v) = false) (fun m => z.sets.list.length - m) 0 ⟨Nat.zero_le _, fun _ h => by omega⟩ (fun m x y hG => ?_)
    obtain ⟨h6, h7⟩ := hG
    dsimp only [List.cons_append, List.nil_append]
    rcases Nat.lt_or_ge m z.sets.list.length with hm | hm
    · obtain ⟨c, hc⟩ := at_some hm
      repeat' (first
        | intro _
        | refine Ws ?_
        | (refine Wt ?_ ?_ <;> intro _ <;> try (exfalso; omega))
        | (refine Wu ?_ ?_ <;> intro _)
        | refine Wv ?_
        | refine Wz ?_
        | fail)
      · have h8 : writesB r v = true := any_found hz (any_found hc (by simp [*]))
        rw [h8]
      · exact Rd (m + 1) (by omega) ⟨by omega, any_succ h7 hc (by simp [*])⟩
    · have h8 : (z.sets.list.any fun x => decide (x.var = v)) = false := any_full (fun j hj o ho => h7 j (by omega) o ho)
      repeat' (first
        | intro _
        | refine Ws ?_
        | (refine Wt ?_ ?_ <;> intro _ <;> try (exfalso; omega))
        | (refine Wu ?_ ?_ <;> intro _)
        | refine Wv ?_
        | refine Wz ?_
        | fail)
      exact Rd (i + 1) (by omega) ⟨by omega, any_succ h5 hz h8⟩
  · have h8 : writesB r v = false := any_full (fun j hj o ho => h5 j (by omega) o ho)
    repeat' (first
      | intro _
      | refine Ws ?_
      | (refine Wt ?_ ?_ <;> intro _ <;> try (exfalso; omega))
      | (refine Wu ?_ ?_ <;> intro _)
      | refine Wv ?_
      | refine Wz ?_
      | fail)
    rw [h8]
end Go.Vi.CYtdfhbmallnegfaa
