/-
  The reference's clock: Stop, Set, Go.
-/
import Derived.Test.YtmcojibgjibkdaaCrN
namespace Go.Vi.CYtmcojibgjibkdaa
open Go.Vi Go.Proofs Go.Proofs.Ytmcojibgjibkdaa
set_option linter.unusedVariables false
set_option maxHeartbeats 8000000
set_option maxRecDepth 100000
set_option linter.unusedSimpArgs false

/-- the reference's clock -/
def Rf (H : Hp) (x : Nat) (now : Int) (ts : List Tm) : Prop := x < H.next ∧ ∃ s : Sl Tm, H.objs x = some (.cells [iv now, slV tmV s]) ∧ s.list = ts
theorem Rf.keep {H H' : Hp} {x : Nat} {now : Int} {ts : List Tm} (h : Rf H x now ts) (k : Keep H H' [x]) : Rf H' x now ts := by
  obtain ⟨h1, s, h2, h3⟩ := h
  exact ⟨Nat.lt_of_lt_of_le h1 k.1, s, (k.2 x (by simp)).trans h2, h3⟩
theorem Rf.put {H : Hp} {x : Nat} {now : Int} {ts : List Tm} {s : Sl Tm} (h : x < H.next) (hs : s.list = ts) : Rf (H.set x (some (.cells [iv now, slV tmV s]))) x now ts ∧ Step H (H.set x (some (.cells [iv now, slV tmV s]))) [x] [x] :=
  ⟨⟨h, s, set_eq, hs⟩, Nat.le_refl _, fun q _ q2 => set_ne (fun e => q2 (by simp [e])), fun q hq => .inl hq⟩
def stopK (k : Int) (ts : List Tm) (n : Nat) : List Tm := stopT k (ts.take n)
theorem stopK_yes {k : Int} {ts : List Tm} {n : Nat} {z : Tm} (hz : ts[n]? = some z) (h : ¬ z.key = k) : stopK k ts (n + 1) = stopK k ts n ++ [z] := by
  unfold stopK stopT
  rw [List.take_add_one, hz, Option.toList_some, List.filter_append, List.filter_cons_of_pos (by simp [h])]; rfl
theorem stopK_no {k : Int} {ts : List Tm} {n : Nat} {z : Tm} (hz : ts[n]? = some z) (h : z.key = k) : stopK k ts (n + 1) = stopK k ts n := by
  unfold stopK stopT
  rw [List.take_add_one, hz, Option.toList_some, List.filter_append, List.filter_cons_of_neg (by simp [h])]; simp
theorem stop_all {k : Int} {ts : List Tm} (h : (stopT k ts).length = ts.length) : ∀ z ∈ ts, z.key ≠ k := by
  unfold stopT at h
  intro z hz
  have := (List.length_filter_eq_length_iff.1 h) z hz
  exact of_decide_eq_true this
theorem empty_app {l : List Tm} {z : Tm} : (l ++ [z]).isEmpty = false := by cases l <;> rfl

theorem r_RStop {H : Hp} {x : Nat} {now k : Int} {ts : List Tm} (h : Rf H x now ts) (hlen : ts.length < 1000000) :
    ∃ e H', Runs Try.prog pol 31 [.val (.ptr x 0), .val (iv k)] H ([.val (iv e)], [], H') ∧ Rf H' x now (stopT k ts) ∧ Step H H' [x] [x] ∧ ((∀ z ∈ ts, z.key ≠ k) → e = 8) ∧ ((∃ z ∈ ts, z.key = k) → e = 0) := by
  suffices hE : RunsE Try.prog pol 31 [.val (.ptr x 0), .val (iv k)] H (fun r H' => ∃ e, r = [.val (iv e)] ∧ Rf H' x now (stopT k ts) ∧ Step H H' [x] [x] ∧ ((∀ z ∈ ts, z.key ≠ k) → e = 8) ∧ ((∃ z ∈ ts, z.key = k) → e = 0)) by
    obtain ⟨r, H', h1, e, rfl, h2⟩ := hE
    exact ⟨e, H', h1, h2⟩
  obtain ⟨hx, s, h1, hs⟩ := id h
  have hsl : s.list.length = ts.length := by rw [hs]
  have hK : stopK k s.list s.list.length = stopT k ts := by rw [hs]; unfold stopK; rw [List.take_length]
  have no : s.list.length = (stopK k s.list s.list.length).length → ∃ e, [RV.val (iv 8)] = [RV.val (iv e)] ∧ Rf H x now (stopT k ts) ∧ Step H H [x] [x] ∧ ((∀ z ∈ ts, z.key ≠ k) → e = 8) ∧ ((∃ z ∈ ts, z.key = k) → e = 0) := fun hl => by
    rw [hK, hsl] at hl
    have := stop_all hl.symm
    exact ⟨8, rfl, by rw [stop_none this]; exact h, Step.refl, fun _ => rfl, fun ⟨z, hz, hk⟩ => absurd hk (this z hz)⟩
  have yes : ∀ so : Sl Tm, so.list = stopK k s.list s.list.length → ¬ s.list.length = (stopK k s.list s.list.length).length → ∃ e, [RV.val (iv 0)] = [RV.val (iv e)] ∧ Rf (H.set x (some (.cells [iv now, slV tmV so]))) x now (stopT k ts) ∧ Step H (H.set x (some (.cells [iv now, slV tmV so]))) [x] [x] ∧ ((∀ z ∈ ts, z.key ≠ k) → e = 8) ∧ ((∃ z ∈ ts, z.key = k) → e = 0) := fun so h2 h3 => by
    rw [hK] at h2
    rw [hK, hsl] at h3
    obtain ⟨p1, p2⟩ := Rf.put (now := now) hx h2
    exact ⟨0, rfl, p1, p2, fun hh => absurd (by rw [stop_none hh]) h3, fun _ => rfl⟩
  refine Runs.toldE (fn := Try.f31) (n := 48) [(0, .val (.ptr x 0)), (1, .val (iv k))] [(0, .gone 0), (1, .gone 0)] rfl Try.func31 rfl rfl (by kernel_rfl) rfl (by repeat' constructor) (by repeat' constructor) ?_
  refine Wx.tellT 35 (.gone 0) ?_
  repeat' (first
    | intro _
    | refine Ws ?_
    | (refine Wt ?_ ?_ <;> intro _ <;> try (exfalso; omega))
    | (refine Wu ?_ ?_ <;> intro _)
    | refine Wv ?_
    | refine Wz ?_
    | fail)
  refine Wx.loop [0, 1, 4, 36, 37, 38, 39, 40, 41, 42, 43, 44, 45, 46, 47] [0, 1] (fun (n, out, e, g, m) => [(5, bif e then .val .nils else .own 35 g 0 m 2), (6, .val (iv (n : Nat)))]) (fun (n, out, e, g, m) => [(35, bif e then .gone g else .row g (out.map tmV) 2 false)]) (fun (n, out, e, g, m) => n ≤ s.list.length ∧ out = stopK k s.list n ∧ m = out.length ∧ e = out.isEmpty ∧ m ≤ n) (fun (n, out, e, g, m) => s.list.length - n) (0, [], true, 0, 0) ⟨Nat.zero_le _, rfl, rfl, rfl, Nat.le_refl _⟩ (fun a x y hG => ?_)
  obtain ⟨n, out, e, g, m⟩ := a
  obtain ⟨hn, ho, hm, he, hmn⟩ := hG
  dsimp only [List.cons_append, List.nil_append]
  subst hm
  rcases Nat.lt_or_ge n s.list.length with hk | hk
  · obtain ⟨z, hz⟩ := at_some hk
    by_cases hzk : z.key = k
    · have h2 := stopK_no hz hzk
      cases out with
      | nil =>
        subst he
        dsimp only [List.isEmpty, cond]
        repeat' (first
          | intro _
          | refine Ws ?_
          | (refine Wt ?_ ?_ <;> intro _ <;> try (exfalso; omega))
          | (refine Wu ?_ ?_ <;> intro _)
          | refine Wo.loadHc h1 ?_
          | refine Wv ?_
          | refine Wz ?_
          | fail)
        all_goals exact Rd (n + 1, [], true, g, 0) (by dsimp only; omega) ⟨(by dsimp only; omega), ho.trans h2.symm, rfl, rfl, Nat.zero_le _⟩
      | cons a out =>
        subst he
        dsimp only [List.isEmpty, cond]
        repeat' (first
          | intro _
          | refine Ws ?_
          | (refine Wt ?_ ?_ <;> intro _ <;> try (exfalso; omega))
          | (refine Wu ?_ ?_ <;> intro _)
          | refine Wo.loadHc h1 ?_
          | refine Wv ?_
          | refine Wz ?_
          | fail)
        all_goals exact Rd (n + 1, a :: out, false, g, (a :: out).length) (by dsimp only; omega) ⟨(by dsimp only; omega), ho.trans h2.symm, rfl, rfl, Nat.le_succ_of_le hmn⟩
    · have h2 := stopK_yes hz hzk
      cases out with
      | nil =>
        subst he
        dsimp only [List.isEmpty, cond]
        repeat' (first
          | intro _
          | refine Ws ?_
          | (refine Wt ?_ ?_ <;> intro _ <;> try (exfalso; omega))
          | (refine Wu ?_ ?_ <;> intro _)
          | refine Wo.loadHc h1 ?_
          | refine Wo.app1n (enc := tmV) (fun _ => rfl) (fun _ => ?_)
          | refine Wv ?_
          | refine Wz ?_
          | fail)
        all_goals exact Rd (n + 1, [z], false, _, 1) (by dsimp only; omega) ⟨(by dsimp only; omega), by rw [h2, ← ho]; rfl, rfl, rfl, Nat.succ_le_succ (Nat.zero_le _)⟩
      | cons a out =>
        subst he
        dsimp only [List.isEmpty, cond]
        repeat' (first
          | intro _
          | refine Ws ?_
          | (refine Wt ?_ ?_ <;> intro _ <;> try (exfalso; omega))
          | (refine Wu ?_ ?_ <;> intro _)
          | refine Wo.loadHc h1 ?_
          | refine Wo.app1 (enc := tmV) (fun _ => ?_)
          | refine Wv ?_
          | refine Wz ?_
          | fail)
        all_goals exact Rd (n + 1, (a :: out).take (a :: out).length ++ [z], false, _, (a :: out).length + 1) (by dsimp only; omega) ⟨(by dsimp only; omega), by rw [h2, ← ho, List.take_length], by rw [List.take_length]; simp, by rw [List.take_length]; rfl, Nat.succ_le_succ hmn⟩
  · have hnn : n = s.list.length := by omega
    subst hnn
    rw [← ho] at no yes
    by_cases hl : s.list.length = out.length
    · have N := no hl
      cases out with
      | nil =>
        subst he
        dsimp only [List.isEmpty, cond]
        have hl' : s.list.length = 0 := hl
        repeat' (first
          | intro _
          | refine Ws ?_
          | (refine Wt ?_ ?_ <;> intro _ <;> try (exfalso; omega))
          | (refine Wu ?_ ?_ <;> intro _)
          | refine Wo.loadHc h1 ?_
          | refine Wv ?_
          | refine Wz ?_
          | fail)
        all_goals exact Wl.retE N
      | cons a out =>
        subst he
        dsimp only [List.isEmpty, cond]
        repeat' (first
          | intro _
          | refine Ws ?_
          | (refine Wt ?_ ?_ <;> intro _ <;> try (exfalso; omega))
          | (refine Wu ?_ ?_ <;> intro _)
          | refine Wo.loadHc h1 ?_
          | refine Wv ?_
          | refine Wz ?_
          | fail)
        all_goals exact Wl.retE N
    · cases out with
      | nil =>
        subst he
        dsimp only [List.isEmpty, cond]
        have Y := yes none rfl hl
        have hl' : ¬ s.list.length = 0 := hl
        repeat' (first
          | intro _
          | refine Ws ?_
          | (refine Wt ?_ ?_ <;> intro _ <;> try (exfalso; omega))
          | (refine Wu ?_ ?_ <;> intro _)
          | refine Wo.loadHc h1 ?_
          | refine Wo.storeHc (b := .nils) h1 rfl ?_
          | refine Wv ?_
          | refine Wz ?_
          | fail)
        all_goals exact Wl.retE Y
      | cons a out =>
        subst he
        dsimp only [List.isEmpty, cond]
        have Y := yes (some (a :: out)) rfl hl
        repeat' (first
          | intro _
          | refine Ws ?_
          | (refine Wt ?_ ?_ <;> intro _ <;> try (exfalso; omega))
          | (refine Wu ?_ ?_ <;> intro _)
          | refine Wo.loadHc h1 ?_
          | refine Wo.storeHc (b := .lst ((a :: out).map tmV)) h1 rfl ?_
          | refine Wv ?_
          | refine Wz ?_
          | fail)
        all_goals exact Wl.retE Y
end Go.Vi.CYtmcojibgjibkdaa
