/-
  Patterns against names and against one another.
-/
import Derived.Test.YtnloddhadlpajaaCpB
namespace Go.Vi.CYtnloddhadlpajaa
open Go.Vi Go.Proofs Go.Proofs.Ytnloddhadlpajaa
set_option linter.unusedVariables false
set_option maxHeartbeats 1000000
set_option maxRecDepth 100000
set_option linter.unusedSimpArgs false

/-- a pattern that ends with any number of parts -/
def openM (s : ByteArray) : Bool := decide ((partsS s).list[(((partsS s).list.length : Nat) - 1 : Int).toNat]? = some ⟨#[42, 42]⟩)
def openS (s : ByteArray) : Sl ByteArray := if openM s then (partsS s).map fun l => (l.take (((partsS s).list.length : Nat) - 1 : Int).toNat).drop 0 else partsS s
theorem r_open (s : ByteArray) (hs : s.size ≤ 32) (H : Hp) : Runs Try.prog pol 52 [.val (.str s)] H ([.val (slV VV.str (openS s)), .val (.bool (openM s))], [], H) := by
  have hl := ps_len s
  have hp := ps_pos s
  refine Runs.told (fn := Try.f52) (n := 20) [(0, .val (.str s))] [(0, .gone 0)] rfl Try.func52 rfl rfl (by kernel_rfl) rfl (by repeat' constructor) (by repeat' constructor) ?_
  repeat' (first
    | intro _
    | refine Wo.cutHiS ?_
    | refine Ws ?_
    | (refine Wt ?_ ?_ <;> intro _ <;> try (exfalso; omega))
    | (refine Wu ?_ ?_ <;> intro _)
    | refine Wo.call0 (r_partsS _ hs) ?_
    | refine Wv ?_
    | refine Wz ?_
    | fail)
  · rename_i z hz h; subst h
    have hm : openM s = true := by unfold openM; rw [hz]; simp
    rw [show openS s = _ from if_pos hm, hm]
  · rename_i z hz h
    have hm : openM s = false := by unfold openM; rw [hz]; simp [h]
    rw [show openS s = _ from if_neg (by simp [hm]), hm]
def agR (R : ByteArray → ByteArray → Bool) : List ByteArray → List ByteArray → Bool
  | [], _ => true
  | _ :: _, [] => false
  | x :: a, y :: b => R x y && agR R a b
theorem drop_at {α : Type} {l : List α} {k : Nat} {z : α} (h : l[k]? = some z) : l.drop k = z :: l.drop (k + 1) := by
  obtain ⟨hk, rfl⟩ := List.getElem?_eq_some_iff.1 h
  exact List.drop_eq_getElem_cons hk
theorem r_against (a b : Sl ByteArray) (fn : FuncId) (R : ByteArray → ByteArray → Bool) (ha : Sl.ok a) (hb : Sl.ok b)
    (hR : ∀ x y H, Runs Try.prog pol fn [.val (.str x), .val (.str y)] H ([.val (.bool (R x y))], [], H))
    (H : Hp) : Runs Try.prog pol 54 [.val (slV VV.str a), .val (slV VV.str b), .val (.func fn [] [])] H ([.val (.bool (agR R a.list b.list))], [], H) := by
  unfold Sl.ok at ha hb
  refine Runs.told (fn := Try.f54) (n := 31) [(0, .val (slV VV.str a)), (1, .val (slV VV.str b)), (2, .val (.func fn [] []))] [(0, .gone 0), (1, .gone 0), (2, .gone 0)] rfl Try.func54 rfl rfl (by kernel_rfl) rfl (by repeat' constructor) (by repeat' constructor) ?_
  repeat' (first
    | intro _
    | refine Ws ?_
    | (refine Wt ?_ ?_ <;> intro _ <;> try (exfalso; omega))
    | (refine Wu ?_ ?_ <;> intro _)
    | refine Wv ?_
    | refine Wz ?_
    | fail)
  refine Wx.loop [1, 2, 9, 10] [0, 1, 2] (fun k => [(11, .val (iv (k : Nat)))]) (fun k => []) (fun k => k ≤ a.list.length ∧ agR R (a.list.drop k) (b.list.drop k) = agR R a.list b.list) (fun k => a.list.length - k) 0 ⟨Nat.zero_le _, rfl⟩ (fun k x y hG => ?_)
  obtain ⟨h1, h2⟩ := hG
  dsimp only [List.cons_append, List.nil_append]
  rcases Nat.lt_or_ge k a.list.length with hk | hk
  · obtain ⟨z, hz⟩ := at_some hk
    rw [drop_at hz] at h2
    rcases Nat.lt_or_ge k b.list.length with hkb | hkb
    · obtain ⟨v, hv⟩ := at_some hkb
      rw [drop_at hv, agR] at h2
      have hRz := hR z v
      repeat' (first
        | intro _
        | refine Ws ?_
        | (refine Wt ?_ ?_ <;> intro _ <;> try (exfalso; omega))
        | (refine Wu ?_ ?_ <;> intro _)
        | refine Wo.callB (hRz) (fun _ => ?_) (fun _ => ?_)
        | refine Wv ?_
        | refine Wz ?_
        | fail)
      all_goals first
        | exact Rd (k + 1) (by omega) ⟨by omega, by rw [← h2]; simp [*]⟩
        | (rw [← h2]; simp [*]; done)
        | trace_state
    · rw [List.drop_eq_nil_of_le hkb, agR] at h2
      repeat' (first
        | intro _
        | refine Ws ?_
        | (refine Wt ?_ ?_ <;> intro _ <;> try (exfalso; omega))
        | (refine Wu ?_ ?_ <;> intro _)
        | refine Wv ?_
        | refine Wz ?_
        | fail)
      all_goals first
        | (rw [← h2]; done)
        | trace_state
  · rw [List.drop_eq_nil_of_le hk, agR] at h2
    repeat' (first
      | intro _
      | refine Ws ?_
      | (refine Wt ?_ ?_ <;> intro _ <;> try (exfalso; omega))
      | (refine Wu ?_ ?_ <;> intro _)
      | refine Wv ?_
      | refine Wz ?_
      | fail)
    all_goals first
      | (rw [← h2]; done)
      | trace_state
def eqR (x y : ByteArray) : Bool := decide (x = ⟨#[42]⟩) || decide (x = y)
def meR (x y : ByteArray) : Bool := decide (x = ⟨#[42]⟩) || decide (y = ⟨#[42]⟩) || decide (x = y)
theorem r_Match1 (x y : ByteArray) (H : Hp) : Runs Try.prog pol 55 [.val (.str x), .val (.str y)] H ([.val (.bool (eqR x y))], [], H) := by
  refine Runs.told (fn := Try.f55) (n := 12) [(0, .val (.str x)), (1, .val (.str y))] [(0, .gone 0), (1, .gone 0)] rfl Try.func55 rfl rfl (by kernel_rfl) rfl (by repeat' constructor) (by repeat' constructor) ?_
  repeat' (first
    | intro _
    | refine Ws ?_
    | (refine Wt ?_ ?_ <;> intro _ <;> try (exfalso; omega))
    | (refine Wu ?_ ?_ <;> intro _)
    | refine Wv ?_
    | refine Wz ?_
    | fail)
  all_goals first
    | (simp [eqR, *]; done)
    | trace_state
theorem r_Covers1 (x y : ByteArray) (H : Hp) : Runs Try.prog pol 58 [.val (.str x), .val (.str y)] H ([.val (.bool (eqR x y))], [], H) := by
  refine Runs.told (fn := Try.f58) (n := 12) [(0, .val (.str x)), (1, .val (.str y))] [(0, .gone 0), (1, .gone 0)] rfl Try.func58 rfl rfl (by kernel_rfl) rfl (by repeat' constructor) (by repeat' constructor) ?_
  repeat' (first
    | intro _
    | refine Ws ?_
    | (refine Wt ?_ ?_ <;> intro _ <;> try (exfalso; omega))
    | (refine Wu ?_ ?_ <;> intro _)
    | refine Wv ?_
    | refine Wz ?_
    | fail)
  all_goals first
    | (simp [eqR, *]; done)
    | trace_state
theorem r_Meets1 (x y : ByteArray) (H : Hp) : Runs Try.prog pol 60 [.val (.str x), .val (.str y)] H ([.val (.bool (meR x y))], [], H) := by
  refine Runs.told (fn := Try.f60) (n := 16) [(0, .val (.str x)), (1, .val (.str y))] [(0, .gone 0), (1, .gone 0)] rfl Try.func60 rfl rfl (by kernel_rfl) rfl (by repeat' constructor) (by repeat' constructor) ?_
  repeat' (first
    | intro _
    | refine Ws ?_
    | (refine Wt ?_ ?_ <;> intro _ <;> try (exfalso; omega))
    | (refine Wu ?_ ?_ <;> intro _)
    | refine Wv ?_
    | refine Wz ?_
    | fail)
  all_goals first
    | (simp [meR, *]; done)
    | trace_state
theorem openS_ok (s : ByteArray) (hs : s.size ≤ 32) : Sl.ok (openS s) := by
  have hl := ps_len s
  unfold Sl.ok openS
  split
  · rw [Sl.list_cut]; simp; omega
  · omega
theorem partsS_ok (s : ByteArray) (hs : s.size ≤ 32) : Sl.ok (partsS s) := by
  have hl := ps_len s
  unfold Sl.ok; omega
theorem allB_le {R : Nat → Nat → ByteArray → Bool} {s : ByteArray} (h : allB R s = true) : s.size ≤ 32 := by
  simp only [allB, Bool.and_eq_true, decide_eq_true_eq] at h; exact h.1.1
def matchB (p s : ByteArray) : Bool := patternB p && streamB s && agR eqR (openS p).list (partsS s).list && (openM p || decide ((openS p).list.length = (partsS s).list.length))
theorem r_Match (p s : ByteArray) (H : Hp) : Runs Try.prog pol 29 [.val (.str p), .val (.str s)] H ([.val (.bool (matchB p s))], [], H) := by
  cases hp : patternB p with
  | false =>
    refine Runs.told (fn := Try.f29) (n := 36) [(0, .val (.str p)), (1, .val (.str s))] [(0, .gone 0), (1, .gone 0)] rfl Try.func29 rfl rfl (by kernel_rfl) rfl (by repeat' constructor) (by repeat' constructor) ?_
    have h1 := r_Pattern p
    rw [hp] at h1
    repeat' (first
      | intro _
      | refine Ws ?_
      | (refine Wt ?_ ?_ <;> intro _ <;> try (exfalso; omega))
      | (refine Wu ?_ ?_ <;> intro _)
      | refine Wo.call0 (h1) ?_
      | refine Wv ?_
      | refine Wz ?_
      | fail)
    simp [matchB, hp]
  | true =>
    cases hs : streamB s with
    | false =>
      refine Runs.told (fn := Try.f29) (n := 36) [(0, .val (.str p)), (1, .val (.str s))] [(0, .gone 0), (1, .gone 0)] rfl Try.func29 rfl rfl (by kernel_rfl) rfl (by repeat' constructor) (by repeat' constructor) ?_
      have h1 := r_Pattern p
      rw [hp] at h1
      have h2 := r_Stream s
      rw [hs] at h2
      repeat' (first
        | intro _
        | refine Ws ?_
        | (refine Wt ?_ ?_ <;> intro _ <;> try (exfalso; omega))
        | (refine Wu ?_ ?_ <;> intro _)
        | refine Wo.call0 (h1) ?_
        | refine Wo.call0 (h2) ?_
        | refine Wv ?_
        | refine Wz ?_
        | fail)
      simp [matchB, hs]
    | true =>
      have hpl := allB_le hp
      have hsl := allB_le hs
      have h1 := r_Pattern p
      rw [hp] at h1
      have h2 := r_Stream s
      rw [hs] at h2
      have h3 := r_against (openS p) (partsS s) 55 eqR (openS_ok p hpl) (partsS_ok s hsl) r_Match1
      have h4 := r_open p hpl
      cases hm : openM p <;> rw [hm] at h4
      all_goals
        refine Runs.told (fn := Try.f29) (n := 36) [(0, .val (.str p)), (1, .val (.str s))] [(0, .gone 0), (1, .gone 0)] rfl Try.func29 rfl rfl (by kernel_rfl) rfl (by repeat' constructor) (by repeat' constructor) ?_
        repeat' (first
          | intro _
          | refine Ws ?_
          | (refine Wt ?_ ?_ <;> intro _ <;> try (exfalso; omega))
          | (refine Wu ?_ ?_ <;> intro _)
          | refine Wo.call0 (h1) ?_
          | refine Wo.call0 (h2) ?_
          | refine Wo.call0 (h4) ?_
          | refine Wo.call0 (r_partsS s hsl) ?_
          | refine Wo.callB (h3) (fun _ => ?_) (fun _ => ?_)
          | refine Wv ?_
          | refine Wz ?_
          | fail)
        all_goals first
          | (simp [matchB, *]; done)
          | (simp [matchB, *]; omega)
          | trace_state
def coversB (p q : ByteArray) : Bool := patternB p && patternB q && agR eqR (openS p).list (openS q).list && (openM p || (decide ((openS p).list.length = (openS q).list.length) && !openM q))
theorem r_Covers (p q : ByteArray) (H : Hp) : Runs Try.prog pol 36 [.val (.str p), .val (.str q)] H ([.val (.bool (coversB p q))], [], H) := by
  cases hp : patternB p with
  | false =>
    refine Runs.told (fn := Try.f36) (n := 44) [(0, .val (.str p)), (1, .val (.str q))] [(0, .gone 0), (1, .gone 0)] rfl Try.func36 rfl rfl (by kernel_rfl) rfl (by repeat' constructor) (by repeat' constructor) ?_
    have h1 := r_Pattern p
    rw [hp] at h1
    repeat' (first
      | intro _
      | refine Ws ?_
      | (refine Wt ?_ ?_ <;> intro _ <;> try (exfalso; omega))
      | (refine Wu ?_ ?_ <;> intro _)
      | refine Wo.call0 (h1) ?_
      | refine Wv ?_
      | refine Wz ?_
      | fail)
    simp [coversB, hp]
  | true =>
    cases hs : patternB q with
    | false =>
      refine Runs.told (fn := Try.f36) (n := 44) [(0, .val (.str p)), (1, .val (.str q))] [(0, .gone 0), (1, .gone 0)] rfl Try.func36 rfl rfl (by kernel_rfl) rfl (by repeat' constructor) (by repeat' constructor) ?_
      have h1 := r_Pattern p
      rw [hp] at h1
      have h2 := r_Pattern q
      rw [hs] at h2
      repeat' (first
        | intro _
        | refine Ws ?_
        | (refine Wt ?_ ?_ <;> intro _ <;> try (exfalso; omega))
        | (refine Wu ?_ ?_ <;> intro _)
        | refine Wo.call0 (h1) ?_
        | refine Wo.call0 (h2) ?_
        | refine Wv ?_
        | refine Wz ?_
        | fail)
      simp [coversB, hs]
    | true =>
      have hpl := allB_le hp
      have hsl := allB_le hs
      have h1 := r_Pattern p
      rw [hp] at h1
      have h2 := r_Pattern q
      rw [hs] at h2
      have h3 := r_against (openS p) (openS q) 58 eqR (openS_ok p hpl) (openS_ok q hsl) r_Covers1
      have h4 := r_open p hpl
      have h5 := r_open q hsl
      cases hm : openM p <;> rw [hm] at h4 <;> cases hn : openM q <;> rw [hn] at h5
      all_goals
        refine Runs.told (fn := Try.f36) (n := 44) [(0, .val (.str p)), (1, .val (.str q))] [(0, .gone 0), (1, .gone 0)] rfl Try.func36 rfl rfl (by kernel_rfl) rfl (by repeat' constructor) (by repeat' constructor) ?_
        repeat' (first
          | intro _
          | refine Ws ?_
          | (refine Wt ?_ ?_ <;> intro _ <;> try (exfalso; omega))
          | (refine Wu ?_ ?_ <;> intro _)
          | refine Wo.call0 (h1) ?_
          | refine Wo.call0 (h2) ?_
          | refine Wo.call0 (h4) ?_
          | refine Wo.call0 (h5) ?_
          | refine Wo.callB (h3) (fun _ => ?_) (fun _ => ?_)
          | refine Wv ?_
          | refine Wz ?_
          | fail)
        all_goals first
          | (simp [coversB, *]; done)
          | (simp [coversB, *]; omega)
          | trace_state
end Go.Vi.CYtnloddhadlpajaa
