/-
  Tables: what is wrong with one.
-/
import Derived.Test.YtdfhbmallnegfaaCxE
namespace Go.Vi.CYtdfhbmallnegfaa
open Go.Vi Go.Proofs Go.Proofs.Ytdfhbmallnegfaa
set_option linter.unusedVariables false
set_option maxHeartbeats 8000000
set_option maxRecDepth 100000
set_option linter.unusedSimpArgs false

structure Flt where
  e : Int
  r : Int
  p : Int
  a : Int
abbrev fltV (x : Flt) : VV := .agg [iv x.e, iv x.r, iv x.p, iv x.a]
def findP (l : List Rl) (name : ByteArray) (i : Nat) : Option Unit := match l[i]? with
  | some r => if r.name = name then some () else none
  | none => none
def find' (l : List Rl) (name : ByteArray) : Int := match scan (findP l name) l.length with
  | some (i, _) => i
  | none => -1
def rule' (t : Tb) (n : Int) (r : Rl) : Flt :=
  if nameOk r.name = false then ⟨6, n, 5, 0⟩ else if find' t.rules.list r.name < n then ⟨9, n, 5, 0⟩ else if r.args < 0 ∨ 4 < r.args then ⟨3, n, 6, 0⟩ else
  if (from' r.fr.list t.states.list.length).2 ≠ 0 then ⟨(from' r.fr.list t.states.list.length).2, n, 7, (from' r.fr.list t.states.list.length).1⟩ else
  if (guards' r.guards.list t.vars.list.length r.args).2 ≠ 0 then ⟨(guards' r.guards.list t.vars.list.length r.args).2, n, 8, (guards' r.guards.list t.vars.list.length r.args).1⟩ else
  if (steps' r.steps.list t.states.list.length t.vars.list.length r.args).2 ≠ 0 then ⟨(steps' r.steps.list t.states.list.length t.vars.list.length r.args).2, n, 9, (steps' r.steps.list t.states.list.length t.vars.list.length r.args).1⟩ else ⟨0, 0, 0, 0⟩

theorem r_Find (t : Tb) (name : ByteArray) (ht : t.ok) (H : Hp) : Runs Try.prog pol 15 [.val (tbV t), .val (.str name)] H ([.val (iv (find' t.rules.list name))], [], H) := by
  have hr : t.rules.list.length ≤ 9223372036854775807 := ht.2.2.2.1
  refine Runs.told (fn := Try.f15) (n := 21) [(0, .val (tbV t)), (1, .val (.str name))] [(0, .gone 0), (1, .gone 0)] rfl Try.func15 rfl rfl (by kernel_rfl) rfl (by repeat' constructor) (by repeat' constructor) ?_
  repeat' (first
    | intro _
    | refine Ws ?_
    | (refine Wt ?_ ?_ <;> intro _ <;> try (exfalso; omega))
    | (refine Wu ?_ ?_ <;> intro _)
    | refine Wv ?_
    | refine Wz ?_
    | fail)
  refine Wx.loop [1, 8, 9] [0, 1, 2] (fun k => [(10, .val (iv (k : Nat)))]) (fun k => []) (fun k => k ≤ t.rules.list.length ∧ ∀ j, j < k → findP t.rules.list name j = none) (fun k => t.rules.list.length - k) 0 ⟨Nat.zero_le _, fun _ h => by omega⟩ (fun k x y hG => ?_)
  obtain ⟨h1, h2⟩ := hG
  dsimp only [List.cons_append, List.nil_append]
  rcases Nat.lt_or_ge k t.rules.list.length with hk | hk
  · obtain ⟨z, hz⟩ := at_some hk
    repeat' (first
      | intro _
      | refine Ws ?_
      | (refine Wt ?_ ?_ <;> intro _ <;> try (exfalso; omega))
      | (refine Wu ?_ ?_ <;> intro _)
      | refine Wv ?_
      | refine Wz ?_
      | fail)
    · have hb := scan_found (p := findP t.rules.list name) (b := ()) h2 (by simp only [findP, hz]; rw [if_pos (by assumption)]) (n := t.rules.list.length) (by omega)
      simp [find', hb]
    · exact Rd (k + 1) (by omega) ⟨by omega, none_succ h2 (by simp only [findP, hz]; rw [if_neg (by assumption)])⟩
  · repeat' (first
      | intro _
      | refine Ws ?_
      | (refine Wt ?_ ?_ <;> intro _ <;> try (exfalso; omega))
      | (refine Wu ?_ ?_ <;> intro _)
      | refine Wv ?_
      | refine Wz ?_
      | fail)
    have hb := scan_none (p := findP t.rules.list name) (n := t.rules.list.length) (fun j hj => h2 j (by omega))
    simp [find', hb]
theorem r_fault (part at' e n : Int) (H : Hp) : Runs Try.prog pol 46 [.val (iv part), .val (iv at'), .val (iv e), .val (.elt [.agg [iv n]] 0 0)] H ([.val (.agg [iv e, iv n, iv part, iv at'])], [], H) := by
  refine Runs.told (fn := Try.f46) (n := 13) [(0, .val (iv part)), (1, .val (iv at')), (2, .val (iv e)), (3, .val (.elt [.agg [iv n]] 0 0))] [(0, .gone 0), (1, .gone 0), (2, .gone 0), (3, .gone 0)] rfl Try.func46 rfl rfl (by kernel_rfl) rfl (by repeat' constructor) (by repeat' constructor) ?_
  repeat' (first
    | intro _
    | refine Ws ?_
    | (refine Wt ?_ ?_ <;> intro _ <;> try (exfalso; omega))
    | (refine Wu ?_ ?_ <;> intro _)
    | refine Wv ?_
    | refine Wz ?_
    | fail)
  rfl
theorem r_faultT (part at' e : Int) (H : Hp) : Runs Try.prog pol 43 [.val (iv part), .val (iv at'), .val (iv e)] H ([.val (.agg [iv e, iv (-1), iv part, iv at'])], [], H) := by
  refine Runs.told (fn := Try.f43) (n := 11) [(0, .val (iv part)), (1, .val (iv at')), (2, .val (iv e))] [(0, .gone 0), (1, .gone 0), (2, .gone 0)] rfl Try.func43 rfl rfl (by kernel_rfl) rfl (by repeat' constructor) (by repeat' constructor) ?_
  repeat' (first
    | intro _
    | refine Ws ?_
    | (refine Wt ?_ ?_ <;> intro _ <;> try (exfalso; omega))
    | (refine Wu ?_ ?_ <;> intro _)
    | refine Wv ?_
    | refine Wz ?_
    | fail)
  rfl
theorem r_rule (t : Tb) (n : Nat) (r : Rl) (hr : t.rules.list[n]? = some r) (ht : t.ok) (H : Hp) : Runs Try.prog pol 29 [.val (tbV t), .val (iv n)] H ([.val (fltV (rule' t n r))], [], H) := by
  have hok : r.ok := ht.2.2.2.2 r (List.mem_of_getElem? hr)
  have h0 : (0 : Int) ≤ (n : Int) := by omega
  refine Runs.told (fn := Try.f29) (n := 91) [(0, .val (tbV t)), (1, .val (iv n))] [(0, .gone 0), (1, .gone 0)] rfl Try.func29 rfl rfl (by kernel_rfl) rfl (by repeat' constructor) (by repeat' constructor) ?_
  repeat' (first
    | intro _
    | refine Ws ?_
    | (refine Wt ?_ ?_ <;> intro _ <;> try (exfalso; omega))
    | (refine Wu ?_ ?_ <;> intro _)
    | refine Wo.callB (r_Name _) (fun _ => ?_) (fun _ => ?_)
    | refine Wo.call0 (r_Find t _ ht) ?_
    | refine Wo.call0 (r_from _ _ hok.2.2.1.1) ?_
    | refine Wo.call0 (r_guards _ _ _ hok.2.2.2.1.1 hok.2.2.2.1.2) ?_
    | refine Wo.call0 (r_steps _ t _ hok.2.2.2.2.1 hok.2.2.2.2.2 ht) ?_
    | refine Wo.call0 (r_fault _ _ _ _) ?_
    | refine Wo.call0 (r_faultT _ _ _) ?_
    | refine Wv ?_
    | refine Wz ?_
    | fail)
  all_goals (simp [rule', *] <;> omega)
def startBad (l : List Int) (i : Nat) : Option Unit := match l[i]? with
  | some n => if valueOk n then none else some ()
  | none => none
def table' (t : Tb) : Flt :=
  if (names t.states.list 8).2 = 0 ∧ t.states.list.length = 0 then ⟨2, -1, 1, 0⟩ else if (names t.states.list 8).2 ≠ 0 then ⟨(names t.states.list 8).2, -1, 1, (names t.states.list 8).1⟩ else
  if (names t.vars.list 6).2 ≠ 0 then ⟨(names t.vars.list 6).2, -1, 2, (names t.vars.list 6).1⟩ else
  if t.start.list.length ≠ t.vars.list.length then ⟨2, -1, 3, 0⟩ else
  match scan (startBad t.start.list) t.start.list.length with
  | some (i, _) => ⟨3, -1, 3, i⟩
  | none => if 12 < t.rules.list.length then ⟨4, -1, 4, 0⟩ else ⟨0, 0, 0, 0⟩
theorem r_table (t : Tb) (ht : t.ok) (H : Hp) : Runs Try.prog pol 28 [.val (tbV t)] H ([.val (fltV (table' t))], [], H) := by
  refine Runs.told (fn := Try.f28) (n := 75) [(0, .val (tbV t))] [(0, .gone 0)] rfl Try.func28 rfl rfl (by kernel_rfl) rfl (by repeat' constructor) (by repeat' constructor) ?_
  repeat' (first
    | intro _
    | refine Ws ?_
    | (refine Wt ?_ ?_ <;> intro _ <;> try (exfalso; omega))
    | (refine Wu ?_ ?_ <;> intro _)
    | refine Wo.call0 (r_names _ _ ht.1.1) ?_
    | refine Wo.call0 (r_names _ _ ht.2.1.1) ?_
    | refine Wo.call0 (r_faultT _ _ _) ?_
    | refine Wv ?_
    | refine Wz ?_
    | fail)
  · unfold table'; rw [if_pos ⟨by assumption, by omega⟩]; rfl
  · rename_i e1 e2 e3 e4 e5
    have h0 : ¬ ((names t.states.list 8).2 = 0 ∧ t.states.list.length = 0) := by omega
    have h5 : ¬ (t.start.list.length ≠ t.vars.list.length) := by omega
    have hst := ht.2.2.1.1
    unfold Sl.ok at hst
    refine Wx.loop [1, 2, 3, 54, 55, 68, 69, 70, 71, 72, 73, 74] [0, 1, 2, 11, 24, 31, 35, 43, 52, 73] (fun k => [(56, .val (iv (k : Nat)))]) (fun k => []) (fun k => k ≤ t.start.list.length ∧ ∀ j, j < k → startBad t.start.list j = none) (fun k => t.start.list.length - k) 0 ⟨Nat.zero_le _, fun _ h => by omega⟩ (fun k x y hG => ?_)
    obtain ⟨h1, h2⟩ := hG
    dsimp only [List.cons_append, List.nil_append]
    rcases Nat.lt_or_ge k t.start.list.length with hk | hk
    · obtain ⟨z, hz⟩ := at_some hk
      repeat' (first
        | intro _
        | refine Ws ?_
        | (refine Wt ?_ ?_ <;> intro _ <;> try (exfalso; omega))
        | (refine Wu ?_ ?_ <;> intro _)
        | refine Wo.callB (r_value _) (fun _ => ?_) (fun _ => ?_)
        | refine Wo.call0 (r_faultT _ _ _) ?_
        | refine Wv ?_
        | refine Wz ?_
        | fail)
      · exact Rd (k + 1) (by omega) ⟨by omega, none_succ h2 (by simp only [startBad, hz]; rw [if_pos (by assumption)])⟩
      · have hb := scan_found (p := startBad t.start.list) (b := ()) h2 (by simp only [startBad, hz]; rw [if_neg (by simp [*])]) (n := t.start.list.length) (by omega)
        unfold table'; rw [if_neg h0, if_neg (by simp [e3]), if_neg (by simp [e4]), if_neg h5, hb]; rfl
    · have hr := ht.2.2.2.1
      unfold Sl.ok at hr
      repeat' (first
        | intro _
        | refine Ws ?_
        | (refine Wt ?_ ?_ <;> intro _ <;> try (exfalso; omega))
        | (refine Wu ?_ ?_ <;> intro _)
        | refine Wo.call0 (r_faultT _ _ _) ?_
        | refine Wv ?_
        | refine Wz ?_
        | fail)
      all_goals (
        have hb := scan_none (p := startBad t.start.list) (n := t.start.list.length) (fun j hj => h2 j (by omega))
        unfold table'; rw [if_neg h0, if_neg (by simp [e3]), if_neg (by simp [e4]), if_neg h5, hb]; dsimp only
        first
          | (rw [if_pos (by omega)]; rfl)
          | (rw [if_neg (by omega)]; rfl))
  · unfold table'; rw [if_neg (by omega), if_neg (by simp [*]), if_neg (by simp [*]), if_pos (by omega)]; rfl
  · unfold table'; rw [if_neg (by omega), if_neg (by simp [*]), if_pos (by assumption)]; rfl
  · unfold table'; rw [if_neg (by simp [*]), if_pos (by assumption)]; rfl
def Flt.z (x : Flt) : Bool := (x.e == 0) && ((x.r == 0) && ((x.p == 0) && ((x.a == 0) && true)))
def ruleBad (t : Tb) (i : Nat) : Option Flt := match t.rules.list[i]? with
  | some r => if (rule' t i r).z then none else some (rule' t i r)
  | none => none
def check' (t : Tb) : Flt := if (table' t).z then (match scan (ruleBad t) t.rules.list.length with | some (_, f) => f | none => ⟨0, 0, 0, 0⟩) else table' t
theorem Flt.z_eq {x : Flt} (h : x.z = true) : x = ⟨0, 0, 0, 0⟩ := by
  obtain ⟨a, b, c, d⟩ := x
  simp [Flt.z] at h
  obtain ⟨rfl, rfl, rfl, rfl⟩ := h
  rfl
theorem r_Check (t : Tb) (ht : t.ok) (H : Hp) : Runs Try.prog pol 10 [.val (tbV t)] H ([.val (fltV (check' t))], [], H) := by
  have hr := ht.2.2.2.1
  unfold Sl.ok at hr
  refine Runs.told (fn := Try.f10) (n := 23) [(0, .val (tbV t))] [(0, .gone 0)] rfl Try.func10 rfl rfl (by kernel_rfl) rfl (by repeat' constructor) (by repeat' constructor) ?_
  repeat' (first
    | intro _
    | refine Ws ?_
    | (refine Wt ?_ ?_ <;> intro _ <;> try (exfalso; omega))
    | (refine Wu ?_ ?_ <;> intro _)
    | refine Wo.call0 (r_table t ht) ?_
    | refine Wv ?_
    | refine Wz ?_
    | fail)
  rename_i g1 g2 g3
  refine Wx.loop [1, 2, 3, 22] [0, 1, 2, 6] (fun (k, f) => [(4, .val (iv (k : Nat)))]) (fun (k, f) => [(3, .box g3 [.val (iv f.e), .val (iv f.r), .val (iv f.p), .val (iv f.a)] true)]) (fun (k, f) => k ≤ t.rules.list.length ∧ ((f.z = true ∧ (table' t).z = true ∧ ∀ j, j < k → ruleBad t j = none) ∨ (f.z = false ∧ f = check' t))) (fun (k, f) => (t.rules.list.length - k) + (if f.z then 1 else 0)) (0, table' t) ⟨Nat.zero_le _, by cases h : (table' t).z; exact .inr ⟨rfl, by simp [check', h]⟩; exact .inl ⟨rfl, rfl, fun _ h => by omega⟩⟩ (fun a x y hG => ?_)
  obtain ⟨k, f⟩ := a
  obtain ⟨h1, h2⟩ := hG
  dsimp only [List.cons_append, List.nil_append]
  rcases h2 with ⟨hz, htz, h3⟩ | ⟨hz, hf⟩
  · rcases Nat.lt_or_ge k t.rules.list.length with hk | hk
    · obtain ⟨r, hrk⟩ := at_some hk
      repeat' (first
        | intro _
        | refine Ws ?_
        | (refine Wt ?_ ?_ <;> intro _ <;> try (exfalso; omega))
        | (refine Wu ?_ ?_ <;> intro _)
        | refine Wo.call0 (r_rule t k r hrk ht) ?_
        | refine Wv ?_
        | refine Wz ?_
        | fail)
      · refine Rd (k + 1, rule' t k r) ?_ ⟨by omega, ?_⟩
        · simp only [hz, if_true]; split <;> omega
        · cases hc : (rule' t k r).z with
          | true => exact .inl ⟨rfl, htz, none_succ h3 (by simp only [ruleBad, hrk, hc, if_true])⟩
          | false =>
            have hb := scan_found (p := ruleBad t) (b := rule' t k r) h3 (by simp only [ruleBad, hrk, hc]; rfl) (n := t.rules.list.length) (by omega)
            exact .inr ⟨rfl, by simp only [check', htz, hb, if_true]⟩
      · rename_i hc
        exact absurd hz (by unfold Flt.z; rw [hc]; simp)
    · repeat' (first
        | intro _
        | refine Ws ?_
        | (refine Wt ?_ ?_ <;> intro _ <;> try (exfalso; omega))
        | (refine Wu ?_ ?_ <;> intro _)
        | refine Wv ?_
        | refine Wz ?_
        | fail)
      · have hb := scan_none (p := ruleBad t) (n := t.rules.list.length) (fun j hj => h3 j (by omega))
        rw [Flt.z_eq hz]
        simp [check', htz, hb]
      · rename_i hc
        exact absurd hz (by unfold Flt.z; rw [hc]; simp)
  · repeat' (first
      | intro _
      | refine Ws ?_
      | (refine Wt ?_ ?_ <;> intro _ <;> try (exfalso; omega))
      | (refine Wu ?_ ?_ <;> intro _)
      | refine Wv ?_
      | refine Wz ?_
      | fail)
    · rename_i hc _
      exact absurd hz (by unfold Flt.z; rw [hc]; simp)
    · rename_i hc _
      exact absurd hz (by unfold Flt.z; rw [hc]; simp)
    · simp [hf]
def right' (t : Tb) : Bool := (check' t).z
theorem r_right (t : Tb) (ht : t.ok) (H : Hp) : Runs Try.prog pol 34 [.val (tbV t)] H ([.val (.bool (right' t))], [], H) := by
  refine Runs.told (fn := Try.f34) (n := 7) [(0, .val (tbV t))] [(0, .gone 0)] rfl Try.func34 rfl rfl (by kernel_rfl) rfl (by repeat' constructor) (by repeat' constructor) ?_
  repeat' (first
    | intro _
    | refine Ws ?_
    | (refine Wt ?_ ?_ <;> intro _ <;> try (exfalso; omega))
    | (refine Wu ?_ ?_ <;> intro _)
    | refine Wo.call0 (r_Check t ht) ?_
    | refine Wv ?_
    | refine Wz ?_
    | fail)
  all_goals (rename_i h; simp only [right', Flt.z, h])
def for' (t : Tb) (n s : Int) : Bool := decide (0 ≤ n ∧ n < t.rules.list.length ∧ 0 ≤ s ∧ s < t.states.list.length) && (match t.rules.list[n.toNat]? with | some r => r.fr.list.any (fun o => decide (o = s)) || r.fr.list.isEmpty | none => false)
theorem any_full {α : Type} {l : List α} {p : α → Bool} (h : ∀ j, j < l.length → ∀ o, l[j]? = some o → p o = false) : l.any p = false := by
  have := any_take (l := l) (p := p) (i := l.length) h
  rwa [List.take_length] at this
theorem any_found {α : Type} {l : List α} {p : α → Bool} {j : Nat} {o : α} (ho : l[j]? = some o) (hp : p o = true) : l.any p = true := List.any_eq_true.2 ⟨o, List.mem_of_getElem? ho, hp⟩
theorem r_For (t : Tb) (n s : Int) (ht : t.ok) (H : Hp) : Runs Try.prog pol 13 [.val (tbV t), .val (iv n), .val (iv s)] H ([.val (.bool (for' t n s))], [], H) := by
  by_cases hb : 0 ≤ n ∧ n < t.rules.list.length
  · obtain ⟨r, hr⟩ := at_some (show n.toNat < t.rules.list.length by omega)
    have hok := (ht.2.2.2.2 r (List.mem_of_getElem? hr)).2.2.1.1
    unfold Sl.ok at hok
    refine Runs.told (fn := Try.f13) (n := 49) [(0, .val (tbV t)), (1, .val (iv n)), (2, .val (iv s))] [(0, .gone 0), (1, .gone 0), (2, .gone 0)] rfl Try.func13 rfl rfl (by kernel_rfl) rfl (by repeat' constructor) (by repeat' constructor) ?_
    repeat' (first
      | intro _
      | refine Ws ?_
      | (refine Wt ?_ ?_ <;> intro _ <;> try (exfalso; omega))
      | (refine Wu ?_ ?_ <;> intro _)
      | refine Wv ?_
      | refine Wz ?_
      | fail)
    · simp [for']; omega
    · simp [for']; omega
    refine Wx.loop [2, 7, 36, 37, 46, 47, 48] [0, 1, 2, 3] (fun k => [(38, .val (iv (k : Nat)))]) (fun k => []) (fun k => k ≤ r.fr.list.length ∧ ∀ j, j < k → ∀ o, r.fr.list[j]? = some o → decide (o = s) = false) (fun k => r.fr.list.length - k) 0 ⟨Nat.zero_le _, fun _ h => by omega⟩ (fun k x y hG => ?_)
    obtain ⟨h1, h2⟩ := hG
    dsimp only [List.cons_append, List.nil_append]
    rename_i hs1 hs2
    have hc : 0 ≤ n ∧ n < t.rules.list.length ∧ 0 ≤ s ∧ s < t.states.list.length := by omega
    rcases Nat.lt_or_ge k r.fr.list.length with hk | hk
    · obtain ⟨z, hz⟩ := at_some hk
      repeat' (first
        | intro _
        | refine Ws ?_
        | (refine Wt ?_ ?_ <;> intro _ <;> try (exfalso; omega))
        | (refine Wu ?_ ?_ <;> intro _)
        | refine Wv ?_
        | refine Wz ?_
        | fail)
      · have := any_found (p := fun o => decide (o = s)) hz (decide_eq_true (by assumption))
        simp only [for', decide_eq_true hc, hr, this, Bool.true_or, Bool.and_self]
      · refine Rd (k + 1) (by omega) ⟨by omega, fun j hj o' ho' => ?_⟩
        rcases Nat.lt_succ_iff_lt_or_eq.1 hj with h | rfl
        · exact h2 j h o' ho'
        · rw [hz] at ho'; cases ho'; exact decide_eq_false (by assumption)
    · have he : k = r.fr.list.length := by omega
      subst he
      repeat' (first
        | intro _
        | refine Ws ?_
        | (refine Wt ?_ ?_ <;> intro _ <;> try (exfalso; omega))
        | (refine Wu ?_ ?_ <;> intro _)
        | refine Wv ?_
        | refine Wz ?_
        | fail)
      all_goals (
        simp only [for', decide_eq_true hc, hr, any_full h2, Bool.false_or, Bool.true_and]
        cases hl : r.fr.list <;> simp_all <;> omega)
  · refine Runs.told (fn := Try.f13) (n := 49) [(0, .val (tbV t)), (1, .val (iv n)), (2, .val (iv s))] [(0, .gone 0), (1, .gone 0), (2, .gone 0)] rfl Try.func13 rfl rfl (by kernel_rfl) rfl (by repeat' constructor) (by repeat' constructor) ?_
    repeat' (first
      | intro _
      | refine Ws ?_
      | (refine Wt ?_ ?_ <;> intro _ <;> try (exfalso; omega))
      | (refine Wu ?_ ?_ <;> intro _)
      | refine Wv ?_
      | refine Wz ?_
      | fail)
    all_goals (simp [for']; omega)
end Go.Vi.CYtdfhbmallnegfaa
