/-
  The reference's clock: Set, Go.
-/
import Derived.Test.YtmcojibgjibkdaaCrP
namespace Go.Vi.CYtmcojibgjibkdaa
open Go.Vi Go.Proofs Go.Proofs.Ytmcojibgjibkdaa
set_option linter.unusedVariables false
set_option maxHeartbeats 8000000
set_option maxRecDepth 100000
set_option linter.unusedSimpArgs false

section
variable {P : Program} {pol : Pol} {f : FuncId} {ops : Array Oper} {Q : PostV} {K : Fr → Hp → Prop} {n : Nat} {x : Nat → SV} {u : List (Nat × SV)} {y : Nat → TC} {w w' : List (Nat × TC)} {H H' : Hp} {l : List Oper} {d : Tmp} {ty : TypeId} {pos : String} {after : Array Edge} {g : Option (Nat × Bool)}
/-- a slice that nobody writes is put into an object's cell -/
theorem Wo.storeHsl {t : TypeId} {p q : Operand} {o off : Nat} {α : Type} {enc : α → VV} {s : Sl α} {cs : List VV} (hO : H.objs o = some (.cells cs)) (hH : H.set o (some (.cells (putCells cs off [slV enc s]))) = H') (h : WX P pol f ops l K n x u y w H') (hx : evX n x u p = some (.val (.ptr o off)) := by rfl) (hy : evX n x u q = some (.val (slV enc s)) := by rfl)
    (hs : sizeT P t = some 1 := by rfl) (hl : Nat.ble (off + 1) cs.length = true := by rfl) (hw : openX ops g n x u = true := by rfl) : WX P pol f ops (⟨none, .store t p q, ty, pos, after, g⟩ :: l) K n x u y w H := by
  cases s with
  | none => exact Wo.storeHc (b := .nils) hO hH h hx hy hs rfl rfl rfl hl hw
  | some l => exact Wo.storeHc (b := .lst (l.map enc)) hO hH h hx hy hs rfl rfl rfl hl hw
end
theorem ins_at {t : Tm} : ∀ {ts : List Tm} {k : Nat}, (∀ (j : Nat) z, j < k → ts[j]? = some z → aheadB z t = true) → k ≤ ts.length → (∀ z, ts[k]? = some z → aheadB z t = false) → insT t ts = ts.take k ++ t :: ts.drop k
  | [], k, _, hk, _ => by
    have : k = 0 := by simpa using hk
    subst this; rfl
  | a :: r, 0, _, _, h => by
    have h1 := h a rfl
    unfold insT
    rw [if_neg (by rw [h1]; decide)]; rfl
  | a :: r, k + 1, hj, hk, h => by
    have h1 := hj 0 a (Nat.succ_pos _) rfl
    unfold insT
    rw [if_pos h1, ins_at (k := k) (fun j z hjk hz => hj (j + 1) z (by omega) (by simpa using hz)) (by simpa using hk) (fun z hz => h z (by simpa using hz))]
    rfl
theorem cat0 (t : Tm) (s2 : List Tm) : List.take 1 [t] ++ s2 = [] ++ t :: s2 := rfl
theorem cat1 (l : List Tm) (t : Tm) (s2 : List Tm) : List.take (l.length + 1) (List.take l.length l ++ [t]) ++ s2 = l ++ t :: s2 := by
  rw [List.take_length, List.take_of_length_le (by simp), List.append_assoc]; rfl
theorem r_RSetBad {H : Hp} {x : Nat} {now k n : Int} {ts : List Tm} (h : Rf H x now ts) (hn : nowOk now) (hb : badN now n) :
    Runs Try.prog pol 30 [.val (.ptr x 0), .val (iv k), .val (iv n)] H ([.val (iv 3)], [], H) := by
  obtain ⟨hx, s, h1, hs⟩ := h
  unfold nowOk at hn
  unfold badN at hb
  refine Runs.told (fn := Try.f30) (n := 103) [(0, .val (.ptr x 0)), (1, .val (iv k)), (2, .val (iv n))] [(0, .gone 0), (1, .gone 0), (2, .gone 0)] rfl Try.func30 rfl rfl (by kernel_rfl) rfl (by repeat' constructor) (by repeat' constructor) ?_
  repeat' (first
    | intro _
    | refine Ws ?_
    | (refine Wt ?_ ?_ <;> intro _ <;> try (exfalso; omega))
    | (refine Wu ?_ ?_ <;> intro _)
    | refine Wo.loadHc h1 ?_
    | refine Wv ?_
    | refine Wz ?_
    | fail)
  all_goals first
    | rfl
    | (exfalso; omega)
theorem r_RSet {H : Hp} {x : Nat} {now k a : Int} {ts : List Tm} (h : Rf H x now ts) (hn : nowOk now) (hb : ¬ badN now a) (hlen : ts.length < 1000000) :
    ∃ H', Runs Try.prog pol 30 [.val (.ptr x 0), .val (iv k), .val (iv a)] H ([.val (iv 0)], [], H') ∧ Rf H' x now (setT k (now + a) ts) ∧ Step H H' [x] [x] := by
  suffices hE : RunsE Try.prog pol 30 [.val (.ptr x 0), .val (iv k), .val (iv a)] H (fun r H' => r = [.val (iv 0)] ∧ Rf H' x now (setT k (now + a) ts) ∧ Step H H' [x] [x]) by
    obtain ⟨r, H', h1, rfl, h2⟩ := hE
    exact ⟨H', h1, h2⟩
  unfold nowOk at hn
  unfold badN at hb
  obtain ⟨e, H1, RS, hR1, hS1, _⟩ := r_RStop (k := k) h hlen
  have hl0 := stopT_len (k := k) (ts := ts)
  obtain ⟨_, s0, h0, _⟩ := id h
  obtain ⟨hx, s, h1, hs⟩ := id hR1
  have hsl : s.list.length = (stopT k ts).length := by rw [hs]
  have done : ∀ (n : Nat) (so : Sl Tm), (∀ (j : Nat) z, j < n → s.list[j]? = some z → aheadB z ⟨now + a, k⟩ = true) → n ≤ s.list.length → (∀ z, s.list[n]? = some z → aheadB z ⟨now + a, k⟩ = false) → so.list = s.list.take n ++ ⟨now + a, k⟩ :: s.list.drop n →
      [RV.val (iv 0)] = [RV.val (iv 0)] ∧ Rf (H1.set x (some (.cells [iv now, slV tmV so]))) x now (setT k (now + a) ts) ∧ Step H (H1.set x (some (.cells [iv now, slV tmV so]))) [x] [x] := fun n so q1 q2 q3 q4 => by
    obtain ⟨p1, p2⟩ := Rf.put (now := now) hx q4
    rw [← ins_at q1 q2 q3, hs] at p1
    exact ⟨rfl, p1, hS1.trans p2⟩
  refine Runs.toldE (fn := Try.f30) (n := 103) [(0, .val (.ptr x 0)), (1, .val (iv k)), (2, .val (iv a))] [(0, .gone 0), (1, .gone 0), (2, .gone 0)] rfl Try.func30 rfl rfl (by kernel_rfl) rfl (by repeat' constructor) (by repeat' constructor) ?_
  refine Wx.tellT 82 (.gone 0) ?_
  repeat' (first
    | intro _
    | refine Ws ?_
    | (refine Wt ?_ ?_ <;> intro _ <;> try (exfalso; omega))
    | (refine Wu ?_ ?_ <;> intro _)
    | refine Wo.loadHc h0 ?_
    | refine Wo.callI RS ?_
    | refine Wo.loadHc h1 ?_
    | refine Wv ?_
    | refine Wz ?_
    | fail)
  refine Wx.loop [0, 1, 6, 7, 85, 86, 87, 88, 89, 90, 91, 92, 93, 94, 95, 96, 97, 98, 99, 100, 101, 102] [0, 1, 2, 23, 89, 90, 98] (fun (n, out, e, g, m) => [(8, bif e then .val .nils else .own 82 g 0 m 2), (9, .val (iv (n : Nat)))]) (fun (n, out, e, g, m) => [(82, bif e then .gone g else .row g (out.map tmV) 2 false)]) (fun (n, out, e, g, m) => n ≤ s.list.length ∧ out = s.list.take n ∧ m = out.length ∧ e = out.isEmpty ∧ (∀ (j : Nat) z, j < n → s.list[j]? = some z → aheadB z ⟨now + a, k⟩ = true)) (fun (n, out, e, g, m) => s.list.length - n) (0, [], true, 0, 0) ⟨Nat.zero_le _, rfl, rfl, rfl, fun j z h => by omega⟩ (fun a x y hG => ?_)
  obtain ⟨n, out, e, g, m⟩ := a
  obtain ⟨hn2, ho, hm, he, hj⟩ := hG
  dsimp only [List.cons_append, List.nil_append]
  subst hm
  have hol : out.length = n := by rw [ho, List.length_take]; omega
  have stop : (∀ z, s.list[n]? = some z → aheadB z ⟨now + a, k⟩ = false) → True := fun _ => trivial
  rcases Nat.lt_or_ge n s.list.length with hk | hk
  · obtain ⟨z, hz⟩ := at_some hk
    cases hA : aheadB z ⟨now + a, k⟩ with
    | true =>
      have hA' := ahead_iff.1 hA
      dsimp only at hA'
      have hj2 : ∀ (j : Nat) z, j < n + 1 → s.list[j]? = some z → aheadB z ⟨now + a, k⟩ = true := fun j z' h1 h2 => by
        by_cases e : j = n
        · subst e; rw [hz] at h2; cases h2; exact hA
        · exact hj j z' (by omega) h2
      have ht : s.list.take (n + 1) = out ++ [z] := by rw [List.take_add_one, hz, ← ho]; rfl
      cases out with
      | nil =>
        subst he
        dsimp only [List.isEmpty, cond]
        repeat' (first
          | intro _
          | refine Ws ?_
          | (refine Wt ?_ ?_ <;> intro _ <;> try (exfalso; omega))
          | (refine Wu ?_ ?_ <;> intro _)
          | refine Wo.loadHc h1 ?_
          | refine Wo.app1n (enc := tmV) (fun _ => rfl) (fun _ => ?_)
          | refine Wv ?_
          | refine Wz ?_
          | fail)
        all_goals exact Rd (n + 1, [z], false, _, 1) (by dsimp only; omega) ⟨(by dsimp only; omega), by rw [ht]; rfl, rfl, rfl, hj2⟩
      | cons b out =>
        subst he
        dsimp only [List.isEmpty, cond]
        repeat' (first
          | intro _
          | refine Ws ?_
          | (refine Wt ?_ ?_ <;> intro _ <;> try (exfalso; omega))
          | (refine Wu ?_ ?_ <;> intro _)
          | refine Wo.loadHc h1 ?_
          | refine Wo.app1 (enc := tmV) (fun _ => ?_)
          | refine Wv ?_
          | refine Wz ?_
          | fail)
        all_goals exact Rd (n + 1, (b :: out).take (b :: out).length ++ [z], false, _, (b :: out).length + 1) (by dsimp only; omega) ⟨(by dsimp only; omega), by rw [ht, List.take_length], by rw [List.take_length]; simp, by rw [List.take_length]; rfl, hj2⟩
    | false =>
      have hA' : ¬ (z.due < now + a ∨ (z.due = now + a ∧ z.key < k)) := fun h => by
        have := (ahead_iff (a := z) (b := ⟨now + a, k⟩)).2 h
        rw [hA] at this; cases this
      have q3 : ∀ z', s.list[n]? = some z' → aheadB z' ⟨now + a, k⟩ = false := fun z' h => by rw [hz] at h; cases h; exact hA
      cases out with
      | nil =>
        have h0 : n = 0 := hol.symm
        subst he
        dsimp only [List.isEmpty, cond]
        repeat' (first
          | intro _
          | refine Ws ?_
          | (refine Wt ?_ ?_ <;> intro _ <;> try (exfalso; omega))
          | (refine Wu ?_ ?_ <;> intro _)
          | refine Wo.loadHc h1 ?_
          | refine Wo.app1n (enc := tmV) (a := ⟨now + a, k⟩) (fun _ => rfl) (fun _ => ?_)
          | refine Wv ?_
          | refine Wz ?_
          | fail)
        all_goals
          rename_i s2 hs2
          have hl2 : s2.list.length = s.list.length - n := by rw [hs2, List.length_drop]; omega
          repeat' (first
            | intro _
            | refine Ws ?_
            | (refine Wt ?_ ?_ <;> intro _ <;> try (exfalso; omega))
            | (refine Wu ?_ ?_ <;> intro _)
            | refine Wo.appS (enc := tmV) (hm := by simp) (fun _ => ?_)
            | refine Wo.storeHc h1 rfl ?_
            | refine Wv ?_
            | refine Wz ?_
            | fail)
          all_goals
            refine Wl.retE ?_
            exact done n (some _) hj hn2 q3 (by rw [← ho]; exact (cat0 _ _).trans (congrArg (fun r => [] ++ (⟨now + a, k⟩ : Tm) :: r) hs2))
      | cons b out =>
        subst he
        dsimp only [List.isEmpty, cond]
        repeat' (first
          | intro _
          | refine Ws ?_
          | (refine Wt ?_ ?_ <;> intro _ <;> try (exfalso; omega))
          | (refine Wu ?_ ?_ <;> intro _)
          | refine Wo.loadHc h1 ?_
          | refine Wo.app1 (enc := tmV) (a := ⟨now + a, k⟩) (fun _ => ?_)
          | refine Wv ?_
          | refine Wz ?_
          | fail)
        all_goals
          rename_i s2 hs2
          have hl2 : s2.list.length = s.list.length - n := by rw [hs2, List.length_drop]; omega
          repeat' (first
            | intro _
            | refine Ws ?_
            | (refine Wt ?_ ?_ <;> intro _ <;> try (exfalso; omega))
            | (refine Wu ?_ ?_ <;> intro _)
            | refine Wo.appS (enc := tmV) (hm := by rw [List.take_length]; simp) (fun _ => ?_)
            | refine Wo.storeHc h1 rfl ?_
            | refine Wv ?_
            | refine Wz ?_
            | fail)
          all_goals
            refine Wl.retE ?_
            exact done n (some _) hj hn2 q3 (by rw [← ho]; exact (cat1 (b :: out) _ _).trans (congrArg (fun r => (b :: out) ++ (⟨now + a, k⟩ : Tm) :: r) hs2))
  · have q3 : ∀ z', s.list[n]? = some z' → aheadB z' ⟨now + a, k⟩ = false := fun z' h => by
      have := (List.getElem?_eq_some_iff.1 h).1; omega
    cases out with
    | nil =>
      have h0 : n = 0 := hol.symm
      subst he
      dsimp only [List.isEmpty, cond]
      repeat' (first
        | intro _
        | refine Ws ?_
        | (refine Wt ?_ ?_ <;> intro _ <;> try (exfalso; omega))
        | (refine Wu ?_ ?_ <;> intro _)
        | refine Wo.loadHc h1 ?_
        | refine Wo.app1n (enc := tmV) (a := ⟨now + a, k⟩) (fun _ => rfl) (fun _ => ?_)
        | refine Wv ?_
        | refine Wz ?_
        | fail)
      all_goals
        rename_i s2 hs2
        have hl2 : s2.list.length = s.list.length - n := by rw [hs2, List.length_drop]; omega
        repeat' (first
          | intro _
          | refine Ws ?_
          | (refine Wt ?_ ?_ <;> intro _ <;> try (exfalso; omega))
          | (refine Wu ?_ ?_ <;> intro _)
          | refine Wo.appS (enc := tmV) (hm := by simp) (fun _ => ?_)
          | refine Wo.storeHc h1 rfl ?_
          | refine Wv ?_
          | refine Wz ?_
          | fail)
        all_goals
          refine Wl.retE ?_
          exact done n (some _) hj hn2 q3 (by rw [← ho]; exact (cat0 _ _).trans (congrArg (fun r => [] ++ (⟨now + a, k⟩ : Tm) :: r) hs2))
    | cons b out =>
      subst he
      dsimp only [List.isEmpty, cond]
      repeat' (first
        | intro _
        | refine Ws ?_
        | (refine Wt ?_ ?_ <;> intro _ <;> try (exfalso; omega))
        | (refine Wu ?_ ?_ <;> intro _)
        | refine Wo.loadHc h1 ?_
        | refine Wo.app1 (enc := tmV) (a := ⟨now + a, k⟩) (fun _ => ?_)
        | refine Wv ?_
        | refine Wz ?_
        | fail)
      all_goals
        rename_i s2 hs2
        have hl2 : s2.list.length = s.list.length - n := by rw [hs2, List.length_drop]; omega
        repeat' (first
          | intro _
          | refine Ws ?_
          | (refine Wt ?_ ?_ <;> intro _ <;> try (exfalso; omega))
          | (refine Wu ?_ ?_ <;> intro _)
          | refine Wo.appS (enc := tmV) (hm := by rw [List.take_length]; simp) (fun _ => ?_)
          | refine Wo.storeHc h1 rfl ?_
          | refine Wv ?_
          | refine Wz ?_
          | fail)
        all_goals
          refine Wl.retE ?_
          exact done n (some _) hj hn2 q3 (by rw [← ho]; exact (cat1 (b :: out) _ _).trans (congrArg (fun r => (b :: out) ++ (⟨now + a, k⟩ : Tm) :: r) hs2))
end Go.Vi.CYtmcojibgjibkdaa
