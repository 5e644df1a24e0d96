/-
  Patterns that meet; the reference.
-/
import Derived.Test.YtnloddhadlpajaaCpC
namespace Go.Vi.CYtnloddhadlpajaa
open Go.Vi Go.Proofs Go.Proofs.Ytnloddhadlpajaa
set_option linter.unusedVariables false
set_option maxHeartbeats 2000000
set_option maxRecDepth 100000
set_option linter.unusedSimpArgs false

def matchL : List ByteArray → List ByteArray → Bool
  | [], [] => true
  | [], _ :: _ => false
  | p :: a, [] => decide (a = []) && decide (p = ⟨#[42, 42]⟩)
  | p :: a, s :: b => decide (p = ⟨#[42, 42]⟩) || (decide (p = ⟨#[42]⟩) || decide (p = s)) && matchL a b
def coversL : List ByteArray → List ByteArray → Bool
  | [], [] => true
  | [], _ :: _ => false
  | p :: a, [] => decide (a = []) && decide (p = ⟨#[42, 42]⟩)
  | p :: a, s :: b => decide (a = []) && decide (p = ⟨#[42, 42]⟩) || !decide (s = ⟨#[42, 42]⟩) && (decide (p = ⟨#[42]⟩) || decide (p = s)) && coversL a b
def meetsL : List ByteArray → List ByteArray → Bool
  | [], [] => true
  | [], s :: b => decide (b = []) && decide (s = ⟨#[42, 42]⟩)
  | p :: a, [] => decide (a = []) && decide (p = ⟨#[42, 42]⟩)
  | p :: a, s :: b => decide (a = []) && decide (p = ⟨#[42, 42]⟩) || decide (b = []) && decide (s = ⟨#[42, 42]⟩) || (decide (p = ⟨#[42]⟩) || decide (s = ⟨#[42]⟩) || decide (p = s)) && meetsL a b
theorem len_one {α : Type} {p : Sl α} {a : List α} (h0 : p.list.length = a.length + 1) (h : ((p.list.length : Nat) : Int) = 1) : a = [] := List.eq_nil_of_length_eq_zero (by omega)
theorem len_more {α : Type} {p : Sl α} {a : List α} (h0 : p.list.length = a.length + 1) (h : ¬ ((p.list.length : Nat) : Int) = 1) : ¬ a = [] := by
  intro ha; rw [ha, List.length_nil] at h0; omega
theorem r_matchL : ∀ (n : Nat) (p s : Sl ByteArray), p.list.length < n → Sl.ok p → Sl.ok s → ∀ H, Runs Try.prog pol 57 [.val (slV VV.str p), .val (slV VV.str s)] H ([.val (.bool (matchL p.list s.list))], [], H) := by
  intro n
  induction n with
  | zero => intro p s hn; omega
  | succ n ih =>
    intro p s hn hp hs H
    unfold Sl.ok at hp hs ih
    cases hpl : p.list with
    | nil =>
      have h0 : p.list.length = 0 := by rw [hpl]; rfl
      cases hsl : s.list with
      | nil =>
        have h1 : s.list.length = 0 := by rw [hsl]; rfl
        refine Runs.told (fn := Try.f57) (n := 56) [(0, .val (slV VV.str p)), (1, .val (slV VV.str s))] [(0, .gone 0), (1, .gone 0)] rfl Try.func57 rfl rfl (by kernel_rfl) rfl (by repeat' constructor) (by repeat' constructor) ?_
        repeat' (first
          | intro _
          | refine Ws ?_
          | (refine Wt ?_ ?_ <;> intro _ <;> try (exfalso; omega))
          | (refine Wu ?_ ?_ <;> intro _)
          | refine Wv ?_
          | refine Wz ?_
          | fail)
        all_goals rfl
      | cons v b =>
        have hv : s.list[(0 : Int).toNat]? = some v := by rw [hsl]; rfl
        have h1 : s.list.length = b.length + 1 := by rw [hsl]; rfl
        refine Runs.told (fn := Try.f57) (n := 56) [(0, .val (slV VV.str p)), (1, .val (slV VV.str s))] [(0, .gone 0), (1, .gone 0)] rfl Try.func57 rfl rfl (by kernel_rfl) rfl (by repeat' constructor) (by repeat' constructor) ?_
        repeat' (first
          | intro _
          | refine Ws ?_
          | (refine Wt ?_ ?_ <;> intro _ <;> try (exfalso; omega))
          | (refine Wu ?_ ?_ <;> intro _)
          | refine Wv ?_
          | refine Wz ?_
          | fail)
        all_goals first
          | (simp [matchL, *]; done)
          | (have ha := len_one h0 (by assumption); simp [matchL, *]; done)
          | (have ha := len_more h0 (by assumption); simp [matchL, *]; done)
          | (have ha := len_one h1 (by assumption); simp [matchL, *]; done)
          | (have ha := len_more h1 (by assumption); simp [matchL, *]; done)
          | (have ha := len_more h1 (by assumption); have hb := len_more h0 (by assumption); simp [matchL, *]; done)
          | (obtain rfl : z = v := (by assumption)
             first
               | (simp [matchL, *]; done)
               | (have ha := len_one h0 (by assumption); simp [matchL, *]; done)
               | (have ha := len_more h0 (by assumption); simp [matchL, *]; done)
               | (have ha := len_one h1 (by assumption); simp [matchL, *]; done)
               | (have ha := len_more h1 (by assumption); simp [matchL, *]; done)
               | (have ha := len_more h1 (by assumption); have hb := len_more h0 (by assumption); simp [matchL, *]; done))
          | (rename_i e _ _; rw [e, hpl]; rfl)
          | (rename_i e; rw [e, hsl]; rfl)
          | trace_state
    | cons z a =>
      have hz : p.list[(0 : Int).toNat]? = some z := by rw [hpl]; rfl
      have h0 : p.list.length = a.length + 1 := by rw [hpl]; rfl
      cases hsl : s.list with
      | nil =>
        have h1 : s.list.length = 0 := by rw [hsl]; rfl
        refine Runs.told (fn := Try.f57) (n := 56) [(0, .val (slV VV.str p)), (1, .val (slV VV.str s))] [(0, .gone 0), (1, .gone 0)] rfl Try.func57 rfl rfl (by kernel_rfl) rfl (by repeat' constructor) (by repeat' constructor) ?_
        repeat' (first
          | intro _
          | refine Ws ?_
          | (refine Wt ?_ ?_ <;> intro _ <;> try (exfalso; omega))
          | (refine Wu ?_ ?_ <;> intro _)
          | refine Wv ?_
          | refine Wz ?_
          | fail)
        all_goals first
          | (simp [matchL, *]; done)
          | (have ha := len_one h0 (by assumption); simp [matchL, *]; done)
          | (have ha := len_more h0 (by assumption); simp [matchL, *]; done)
          | (have ha := len_one h1 (by assumption); simp [matchL, *]; done)
          | (have ha := len_more h1 (by assumption); simp [matchL, *]; done)
          | (have ha := len_more h1 (by assumption); have hb := len_more h0 (by assumption); simp [matchL, *]; done)
          | (obtain rfl : z = v := (by assumption)
             first
               | (simp [matchL, *]; done)
               | (have ha := len_one h0 (by assumption); simp [matchL, *]; done)
               | (have ha := len_more h0 (by assumption); simp [matchL, *]; done)
               | (have ha := len_one h1 (by assumption); simp [matchL, *]; done)
               | (have ha := len_more h1 (by assumption); simp [matchL, *]; done)
               | (have ha := len_more h1 (by assumption); have hb := len_more h0 (by assumption); simp [matchL, *]; done))
          | (rename_i e _ _; rw [e, hpl]; rfl)
          | (rename_i e; rw [e, hsl]; rfl)
          | trace_state
      | cons v b =>
        have hv : s.list[(0 : Int).toNat]? = some v := by rw [hsl]; rfl
        have h1 : s.list.length = b.length + 1 := by rw [hsl]; rfl
        have ih' : ∀ p' s' : Sl ByteArray, p'.list = a → s'.list = b → ∀ H, Runs Try.prog pol 57 [.val (slV VV.str p'), .val (slV VV.str s')] H ([.val (.bool (matchL a b))], [], H) := by
          intro p' s' hp' hs' H
          rw [← hp', ← hs']
          rw [← hp'] at h0
          rw [← hs'] at h1
          exact ih p' s' (by omega) (by omega) (by omega) H
        refine Runs.told (fn := Try.f57) (n := 56) [(0, .val (slV VV.str p)), (1, .val (slV VV.str s))] [(0, .gone 0), (1, .gone 0)] rfl Try.func57 rfl rfl (by kernel_rfl) rfl (by repeat' constructor) (by repeat' constructor) ?_
        repeat' (first
          | intro _
          | refine Ws ?_
          | (refine Wt ?_ ?_ <;> intro _ <;> try (exfalso; omega))
          | (refine Wu ?_ ?_ <;> intro _)
          | refine Wo.call0 (ih' _ _ ?_ ?_) ?_
          | refine Wv ?_
          | refine Wz ?_
          | fail)
        all_goals first
          | (simp [matchL, *]; done)
          | (have ha := len_one h0 (by assumption); simp [matchL, *]; done)
          | (have ha := len_more h0 (by assumption); simp [matchL, *]; done)
          | (have ha := len_one h1 (by assumption); simp [matchL, *]; done)
          | (have ha := len_more h1 (by assumption); simp [matchL, *]; done)
          | (have ha := len_more h1 (by assumption); have hb := len_more h0 (by assumption); simp [matchL, *]; done)
          | (obtain rfl : z = v := (by assumption)
             first
               | (simp [matchL, *]; done)
               | (have ha := len_one h0 (by assumption); simp [matchL, *]; done)
               | (have ha := len_more h0 (by assumption); simp [matchL, *]; done)
               | (have ha := len_one h1 (by assumption); simp [matchL, *]; done)
               | (have ha := len_more h1 (by assumption); simp [matchL, *]; done)
               | (have ha := len_more h1 (by assumption); have hb := len_more h0 (by assumption); simp [matchL, *]; done))
          | (rename_i e _ _; rw [e, hpl]; rfl)
          | (rename_i e; rw [e, hsl]; rfl)
          | trace_state
theorem r_coversL : ∀ (n : Nat) (p s : Sl ByteArray), p.list.length < n → Sl.ok p → Sl.ok s → ∀ H, Runs Try.prog pol 59 [.val (slV VV.str p), .val (slV VV.str s)] H ([.val (.bool (coversL p.list s.list))], [], H) := by
  intro n
  induction n with
  | zero => intro p s hn; omega
  | succ n ih =>
    intro p s hn hp hs H
    unfold Sl.ok at hp hs ih
    cases hpl : p.list with
    | nil =>
      have h0 : p.list.length = 0 := by rw [hpl]; rfl
      cases hsl : s.list with
      | nil =>
        have h1 : s.list.length = 0 := by rw [hsl]; rfl
        refine Runs.told (fn := Try.f59) (n := 54) [(0, .val (slV VV.str p)), (1, .val (slV VV.str s))] [(0, .gone 0), (1, .gone 0)] rfl Try.func59 rfl rfl (by kernel_rfl) rfl (by repeat' constructor) (by repeat' constructor) ?_
        repeat' (first
          | intro _
          | refine Ws ?_
          | (refine Wt ?_ ?_ <;> intro _ <;> try (exfalso; omega))
          | (refine Wu ?_ ?_ <;> intro _)
          | refine Wv ?_
          | refine Wz ?_
          | fail)
        all_goals rfl
      | cons v b =>
        have hv : s.list[(0 : Int).toNat]? = some v := by rw [hsl]; rfl
        have h1 : s.list.length = b.length + 1 := by rw [hsl]; rfl
        refine Runs.told (fn := Try.f59) (n := 54) [(0, .val (slV VV.str p)), (1, .val (slV VV.str s))] [(0, .gone 0), (1, .gone 0)] rfl Try.func59 rfl rfl (by kernel_rfl) rfl (by repeat' constructor) (by repeat' constructor) ?_
        repeat' (first
          | intro _
          | refine Ws ?_
          | (refine Wt ?_ ?_ <;> intro _ <;> try (exfalso; omega))
          | (refine Wu ?_ ?_ <;> intro _)
          | refine Wv ?_
          | refine Wz ?_
          | fail)
        all_goals first
          | (simp [coversL, *]; done)
          | (have ha := len_one h0 (by assumption); simp [coversL, *]; done)
          | (have ha := len_more h0 (by assumption); simp [coversL, *]; done)
          | (have ha := len_one h1 (by assumption); simp [coversL, *]; done)
          | (have ha := len_more h1 (by assumption); simp [coversL, *]; done)
          | (have ha := len_more h1 (by assumption); have hb := len_more h0 (by assumption); simp [coversL, *]; done)
          | (obtain rfl : z = v := (by assumption)
             first
               | (simp [coversL, *]; done)
               | (have ha := len_one h0 (by assumption); simp [coversL, *]; done)
               | (have ha := len_more h0 (by assumption); simp [coversL, *]; done)
               | (have ha := len_one h1 (by assumption); simp [coversL, *]; done)
               | (have ha := len_more h1 (by assumption); simp [coversL, *]; done)
               | (have ha := len_more h1 (by assumption); have hb := len_more h0 (by assumption); simp [coversL, *]; done))
          | (rename_i e _ _; rw [e, hpl]; rfl)
          | (rename_i e; rw [e, hsl]; rfl)
          | trace_state
    | cons z a =>
      have hz : p.list[(0 : Int).toNat]? = some z := by rw [hpl]; rfl
      have h0 : p.list.length = a.length + 1 := by rw [hpl]; rfl
      cases hsl : s.list with
      | nil =>
        have h1 : s.list.length = 0 := by rw [hsl]; rfl
        refine Runs.told (fn := Try.f59) (n := 54) [(0, .val (slV VV.str p)), (1, .val (slV VV.str s))] [(0, .gone 0), (1, .gone 0)] rfl Try.func59 rfl rfl (by kernel_rfl) rfl (by repeat' constructor) (by repeat' constructor) ?_
        repeat' (first
          | intro _
          | refine Ws ?_
          | (refine Wt ?_ ?_ <;> intro _ <;> try (exfalso; omega))
          | (refine Wu ?_ ?_ <;> intro _)
          | refine Wv ?_
          | refine Wz ?_
          | fail)
        all_goals first
          | (simp [coversL, *]; done)
          | (have ha := len_one h0 (by assumption); simp [coversL, *]; done)
          | (have ha := len_more h0 (by assumption); simp [coversL, *]; done)
          | (have ha := len_one h1 (by assumption); simp [coversL, *]; done)
          | (have ha := len_more h1 (by assumption); simp [coversL, *]; done)
          | (have ha := len_more h1 (by assumption); have hb := len_more h0 (by assumption); simp [coversL, *]; done)
          | (obtain rfl : z = v := (by assumption)
             first
               | (simp [coversL, *]; done)
               | (have ha := len_one h0 (by assumption); simp [coversL, *]; done)
               | (have ha := len_more h0 (by assumption); simp [coversL, *]; done)
               | (have ha := len_one h1 (by assumption); simp [coversL, *]; done)
               | (have ha := len_more h1 (by assumption); simp [coversL, *]; done)
               | (have ha := len_more h1 (by assumption); have hb := len_more h0 (by assumption); simp [coversL, *]; done))
          | (rename_i e _ _; rw [e, hpl]; rfl)
          | (rename_i e; rw [e, hsl]; rfl)
          | trace_state
      | cons v b =>
        have hv : s.list[(0 : Int).toNat]? = some v := by rw [hsl]; rfl
        have h1 : s.list.length = b.length + 1 := by rw [hsl]; rfl
        have ih' : ∀ p' s' : Sl ByteArray, p'.list = a → s'.list = b → ∀ H, Runs Try.prog pol 59 [.val (slV VV.str p'), .val (slV VV.str s')] H ([.val (.bool (coversL a b))], [], H) := by
          intro p' s' hp' hs' H
          rw [← hp', ← hs']
          rw [← hp'] at h0
          rw [← hs'] at h1
          exact ih p' s' (by omega) (by omega) (by omega) H
        refine Runs.told (fn := Try.f59) (n := 54) [(0, .val (slV VV.str p)), (1, .val (slV VV.str s))] [(0, .gone 0), (1, .gone 0)] rfl Try.func59 rfl rfl (by kernel_rfl) rfl (by repeat' constructor) (by repeat' constructor) ?_
        repeat' (first
          | intro _
          | refine Ws ?_
          | (refine Wt ?_ ?_ <;> intro _ <;> try (exfalso; omega))
          | (refine Wu ?_ ?_ <;> intro _)
          | refine Wo.call0 (ih' _ _ ?_ ?_) ?_
          | refine Wv ?_
          | refine Wz ?_
          | fail)
        all_goals first
          | (simp [coversL, *]; done)
          | (have ha := len_one h0 (by assumption); simp [coversL, *]; done)
          | (have ha := len_more h0 (by assumption); simp [coversL, *]; done)
          | (have ha := len_one h1 (by assumption); simp [coversL, *]; done)
          | (have ha := len_more h1 (by assumption); simp [coversL, *]; done)
          | (have ha := len_more h1 (by assumption); have hb := len_more h0 (by assumption); simp [coversL, *]; done)
          | (obtain rfl : z = v := (by assumption)
             first
               | (simp [coversL, *]; done)
               | (have ha := len_one h0 (by assumption); simp [coversL, *]; done)
               | (have ha := len_more h0 (by assumption); simp [coversL, *]; done)
               | (have ha := len_one h1 (by assumption); simp [coversL, *]; done)
               | (have ha := len_more h1 (by assumption); simp [coversL, *]; done)
               | (have ha := len_more h1 (by assumption); have hb := len_more h0 (by assumption); simp [coversL, *]; done))
          | (rename_i e _ _; rw [e, hpl]; rfl)
          | (rename_i e; rw [e, hsl]; rfl)
          | trace_state
theorem r_meetsL : ∀ (n : Nat) (p s : Sl ByteArray), p.list.length < n → Sl.ok p → Sl.ok s → ∀ H, Runs Try.prog pol 61 [.val (slV VV.str p), .val (slV VV.str s)] H ([.val (.bool (meetsL p.list s.list))], [], H) := by
  intro n
  induction n with
  | zero => intro p s hn; omega
  | succ n ih =>
    intro p s hn hp hs H
    unfold Sl.ok at hp hs ih
    cases hpl : p.list with
    | nil =>
      have h0 : p.list.length = 0 := by rw [hpl]; rfl
      cases hsl : s.list with
      | nil =>
        have h1 : s.list.length = 0 := by rw [hsl]; rfl
        refine Runs.told (fn := Try.f61) (n := 67) [(0, .val (slV VV.str p)), (1, .val (slV VV.str s))] [(0, .gone 0), (1, .gone 0)] rfl Try.func61 rfl rfl (by kernel_rfl) rfl (by repeat' constructor) (by repeat' constructor) ?_
        repeat' (first
          | intro _
          | refine Ws ?_
          | (refine Wt ?_ ?_ <;> intro _ <;> try (exfalso; omega))
          | (refine Wu ?_ ?_ <;> intro _)
          | refine Wv ?_
          | refine Wz ?_
          | fail)
        all_goals rfl
      | cons v b =>
        have hv : s.list[(0 : Int).toNat]? = some v := by rw [hsl]; rfl
        have h1 : s.list.length = b.length + 1 := by rw [hsl]; rfl
        refine Runs.told (fn := Try.f61) (n := 67) [(0, .val (slV VV.str p)), (1, .val (slV VV.str s))] [(0, .gone 0), (1, .gone 0)] rfl Try.func61 rfl rfl (by kernel_rfl) rfl (by repeat' constructor) (by repeat' constructor) ?_
        repeat' (first
          | intro _
          | refine Ws ?_
          | (refine Wt ?_ ?_ <;> intro _ <;> try (exfalso; omega))
          | (refine Wu ?_ ?_ <;> intro _)
          | refine Wv ?_
          | refine Wz ?_
          | fail)
        all_goals first
          | (simp [meetsL, *]; done)
          | (have ha := len_one h0 (by assumption); simp [meetsL, *]; done)
          | (have ha := len_more h0 (by assumption); simp [meetsL, *]; done)
          | (have ha := len_one h1 (by assumption); simp [meetsL, *]; done)
          | (have ha := len_more h1 (by assumption); simp [meetsL, *]; done)
          | (have ha := len_more h1 (by assumption); have hb := len_more h0 (by assumption); simp [meetsL, *]; done)
          | (obtain rfl : z = v := (by assumption)
             first
               | (simp [meetsL, *]; done)
               | (have ha := len_one h0 (by assumption); simp [meetsL, *]; done)
               | (have ha := len_more h0 (by assumption); simp [meetsL, *]; done)
               | (have ha := len_one h1 (by assumption); simp [meetsL, *]; done)
               | (have ha := len_more h1 (by assumption); simp [meetsL, *]; done)
               | (have ha := len_more h1 (by assumption); have hb := len_more h0 (by assumption); simp [meetsL, *]; done))
          | (rename_i e _ _; rw [e, hpl]; rfl)
          | (rename_i e; rw [e, hsl]; rfl)
          | trace_state
    | cons z a =>
      have hz : p.list[(0 : Int).toNat]? = some z := by rw [hpl]; rfl
      have h0 : p.list.length = a.length + 1 := by rw [hpl]; rfl
      cases hsl : s.list with
      | nil =>
        have h1 : s.list.length = 0 := by rw [hsl]; rfl
        refine Runs.told (fn := Try.f61) (n := 67) [(0, .val (slV VV.str p)), (1, .val (slV VV.str s))] [(0, .gone 0), (1, .gone 0)] rfl Try.func61 rfl rfl (by kernel_rfl) rfl (by repeat' constructor) (by repeat' constructor) ?_
        repeat' (first
          | intro _
          | refine Ws ?_
          | (refine Wt ?_ ?_ <;> intro _ <;> try (exfalso; omega))
          | (refine Wu ?_ ?_ <;> intro _)
          | refine Wv ?_
          | refine Wz ?_
          | fail)
        all_goals first
          | (simp [meetsL, *]; done)
          | (have ha := len_one h0 (by assumption); simp [meetsL, *]; done)
          | (have ha := len_more h0 (by assumption); simp [meetsL, *]; done)
          | (have ha := len_one h1 (by assumption); simp [meetsL, *]; done)
          | (have ha := len_more h1 (by assumption); simp [meetsL, *]; done)
          | (have ha := len_more h1 (by assumption); have hb := len_more h0 (by assumption); simp [meetsL, *]; done)
          | (obtain rfl : z = v := (by assumption)
             first
               | (simp [meetsL, *]; done)
               | (have ha := len_one h0 (by assumption); simp [meetsL, *]; done)
               | (have ha := len_more h0 (by assumption); simp [meetsL, *]; done)
               | (have ha := len_one h1 (by assumption); simp [meetsL, *]; done)
               | (have ha := len_more h1 (by assumption); simp [meetsL, *]; done)
               | (have ha := len_more h1 (by assumption); have hb := len_more h0 (by assumption); simp [meetsL, *]; done))
          | (rename_i e _ _; rw [e, hpl]; rfl)
          | (rename_i e; rw [e, hsl]; rfl)
          | trace_state
      | cons v b =>
        have hv : s.list[(0 : Int).toNat]? = some v := by rw [hsl]; rfl
        have h1 : s.list.length = b.length + 1 := by rw [hsl]; rfl
        have ih' : ∀ p' s' : Sl ByteArray, p'.list = a → s'.list = b → ∀ H, Runs Try.prog pol 61 [.val (slV VV.str p'), .val (slV VV.str s')] H ([.val (.bool (meetsL a b))], [], H) := by
          intro p' s' hp' hs' H
          rw [← hp', ← hs']
          rw [← hp'] at h0
          rw [← hs'] at h1
          exact ih p' s' (by omega) (by omega) (by omega) H
        refine Runs.told (fn := Try.f61) (n := 67) [(0, .val (slV VV.str p)), (1, .val (slV VV.str s))] [(0, .gone 0), (1, .gone 0)] rfl Try.func61 rfl rfl (by kernel_rfl) rfl (by repeat' constructor) (by repeat' constructor) ?_
        repeat' (first
          | intro _
          | refine Ws ?_
          | (refine Wt ?_ ?_ <;> intro _ <;> try (exfalso; omega))
          | (refine Wu ?_ ?_ <;> intro _)
          | refine Wo.call0 (ih' _ _ ?_ ?_) ?_
          | refine Wv ?_
          | refine Wz ?_
          | fail)
        all_goals first
          | (simp [meetsL, *]; done)
          | (have ha := len_one h0 (by assumption); simp [meetsL, *]; done)
          | (have ha := len_more h0 (by assumption); simp [meetsL, *]; done)
          | (have ha := len_one h1 (by assumption); simp [meetsL, *]; done)
          | (have ha := len_more h1 (by assumption); simp [meetsL, *]; done)
          | (have ha := len_more h1 (by assumption); have hb := len_more h0 (by assumption); simp [meetsL, *]; done)
          | (obtain rfl : z = v := (by assumption)
             first
               | (simp [meetsL, *]; done)
               | (have ha := len_one h0 (by assumption); simp [meetsL, *]; done)
               | (have ha := len_more h0 (by assumption); simp [meetsL, *]; done)
               | (have ha := len_one h1 (by assumption); simp [meetsL, *]; done)
               | (have ha := len_more h1 (by assumption); simp [meetsL, *]; done)
               | (have ha := len_more h1 (by assumption); have hb := len_more h0 (by assumption); simp [meetsL, *]; done))
          | (rename_i e _ _; rw [e, hpl]; rfl)
          | (rename_i e; rw [e, hsl]; rfl)
          | trace_state
end Go.Vi.CYtnloddhadlpajaa
