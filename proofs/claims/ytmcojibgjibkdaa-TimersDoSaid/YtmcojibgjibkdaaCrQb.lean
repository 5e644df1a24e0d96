/-
  The reference's clock: Go.
-/
import Derived.Test.YtmcojibgjibkdaaCrQ
namespace Go.Vi.CYtmcojibgjibkdaa
open Go.Vi Go.Proofs Go.Proofs.Ytmcojibgjibkdaa
set_option linter.unusedVariables false
set_option maxHeartbeats 8000000
set_option maxRecDepth 100000
set_option linter.unusedSimpArgs false

theorem r_RGoBad {H : Hp} {x : Nat} {now n : Int} {ts : List Tm} (h : Rf H x now ts) (hn : nowOk now) (hb : badN now n) :
    Runs Try.prog pol 32 [.val (.ptr x 0), .val (iv n)] H ([.val .nils, .val (iv 3)], [], H) := by
  obtain ⟨hx, s, h1, hs⟩ := h
  unfold nowOk at hn
  unfold badN at hb
  refine Runs.told (fn := Try.f32) (n := 66) [(0, .val (.ptr x 0)), (1, .val (iv n))] [(0, .gone 0), (1, .gone 0)] rfl Try.func32 rfl rfl (by kernel_rfl) rfl (by repeat' constructor) (by repeat' constructor) ?_
  repeat' (first
    | intro _
    | refine Ws ?_
    | (refine Wt ?_ ?_ <;> intro _ <;> try (exfalso; omega))
    | (refine Wu ?_ ?_ <;> intro _)
    | refine Wo.loadHc h1 ?_
    | refine Wv ?_
    | refine Wz ?_
    | fail)
  all_goals first
    | rfl
    | (exfalso; omega)
theorem r_RGo {H : Hp} {xo : Nat} {now n : Int} {ts : List Tm} (h : Rf H xo now ts) (hn : nowOk now) (hb : ¬ badN now n) (hlen : ts.length < 1000000) :
    ∃ so : Sl Int, so.list = (goT (now + n) ts).1 ∧ ∃ H', Runs Try.prog pol 32 [.val (.ptr xo 0), .val (iv n)] H ([.val (slV iv so), .val (iv 0)], [], H') ∧ Rf H' xo (now + n) (goT (now + n) ts).2 ∧ Step H H' [xo] [xo] := by
  suffices hE : RunsE Try.prog pol 32 [.val (.ptr xo 0), .val (iv n)] H (fun r H' => ∃ so : Sl Int, r = [.val (slV iv so), .val (iv 0)] ∧ so.list = (goT (now + n) ts).1 ∧ Rf H' xo (now + n) (goT (now + n) ts).2 ∧ Step H H' [xo] [xo]) by
    obtain ⟨r, H', h1, so, rfl, h2, h3⟩ := hE
    exact ⟨so, h2, H', h1, h3⟩
  obtain ⟨hx, s, h1, hs⟩ := id h
  unfold nowOk at hn
  unfold badN at hb
  obtain ⟨HA, hHA⟩ : ∃ HA, HA = H.set xo (some (.cells [iv (now + n), slV tmV s])) := ⟨_, rfl⟩
  obtain ⟨hA1, hA2⟩ := Rf.put (now := now + n) hx hs
  rw [← hHA] at hA1 hA2
  have hS : H.set xo (some (.cells (putCells [iv now, slV tmV s] 0 [iv (now + n)]))) = HA := by rw [hHA]; rfl
  have hO : HA.objs xo = some (.cells [iv (now + n), slV tmV s]) := by rw [hHA, set_eq]
  refine Runs.toldE (fn := Try.f32) (n := 66) [(0, .val (.ptr xo 0)), (1, .val (iv n))] [(0, .gone 0), (1, .gone 0)] rfl Try.func32 rfl rfl (by kernel_rfl) rfl (by repeat' constructor) (by repeat' constructor) ?_
  refine Wx.tellT 56 (.gone 0) ?_
  repeat' (first
    | intro _
    | refine Ws ?_
    | (refine Wt ?_ ?_ <;> intro _ <;> try (exfalso; omega))
    | (refine Wu ?_ ?_ <;> intro _)
    | refine Wo.loadHc h1 ?_
    | refine Wo.storeHc h1 hS ?_
    | refine Wv ?_
    | refine Wz ?_
    | fail)
  refine Wx.loopH (fun (K, s1, out, e, g, m) => K) [0, 4, 5, 65] [0, 1] (fun (K, s1, out, e, g, m) => [(6, bif e then .val .nils else .own 56 g 0 m 1)]) (fun (K, s1, out, e, g, m) => [(56, bif e then .gone g else .row g (out.map iv) 1 false)]) (fun (K, s1, out, e, g, m) => K.objs xo = some (.cells [iv (now + n), slV tmV s1]) ∧ xo < K.next ∧ Step H K [xo] [xo] ∧ out ++ (goT (now + n) s1.list).1 = (goT (now + n) ts).1 ∧ (goT (now + n) s1.list).2 = (goT (now + n) ts).2 ∧ e = out.isEmpty ∧ m = out.length ∧ out.length + s1.list.length = ts.length) (fun (K, s1, out, e, g, m) => s1.list.length) (HA, s, [], true, 0, 0) ⟨hO, hA1.1, hA2, by rw [hs]; rfl, by rw [hs], rfl, rfl, by rw [hs]; simp⟩ (fun a x y hG => ?_)
  obtain ⟨K, s1, out, e, g, m⟩ := a
  obtain ⟨hK, hKx, hT, hG, hR, he, hm, hl⟩ := hG
  dsimp only [List.cons_append, List.nil_append]
  subst hm
  have stop : (s1.list = [] ∨ ∃ z r, s1.list = z :: r ∧ ¬ z.due ≤ now + n) → ∀ so : Sl Int, so.list = out → ∃ so' : Sl Int, [RV.val (slV iv so), RV.val (iv 0)] = [RV.val (slV iv so'), RV.val (iv 0)] ∧ so'.list = (goT (now + n) ts).1 ∧ Rf K xo (now + n) (goT (now + n) ts).2 ∧ Step H K [xo] [xo] := fun h so hso => by
    have e12 : (goT (now + n) s1.list).1 = [] ∧ (goT (now + n) s1.list).2 = s1.list := by
      rcases h with h | ⟨z, r, h, hz⟩
      · rw [h]; exact ⟨rfl, rfl⟩
      · rw [h]; unfold goT; rw [if_neg hz]; exact ⟨rfl, rfl⟩
    rw [e12.1, List.append_nil] at hG
    rw [e12.2] at hR
    exact ⟨so, rfl, hso.trans hG, ⟨hKx, s1, hK, hR⟩, hT⟩
  cases hl1 : s1.list with
  | nil =>
    have hlen1 : s1.list.length = 0 := by rw [hl1]; rfl
    cases out with
    | nil =>
      have F := stop (.inl hl1) none rfl
      subst he
      dsimp only [List.isEmpty, cond]
      repeat' (first
        | intro _
        | refine Ws ?_
        | (refine Wt ?_ ?_ <;> intro _ <;> try (exfalso; omega))
        | (refine Wu ?_ ?_ <;> intro _)
        | refine Wo.loadHc hK ?_
        | refine Wv ?_
        | refine Wz ?_
        | fail)
      all_goals exact Wl.retFE (us := [.nils, iv 0]) F
    | cons a out =>
      have F := stop (.inl hl1) (some (a :: out)) rfl
      subst he
      dsimp only [List.isEmpty, cond]
      repeat' (first
        | intro _
        | refine Ws ?_
        | (refine Wt ?_ ?_ <;> intro _ <;> try (exfalso; omega))
        | (refine Wu ?_ ?_ <;> intro _)
        | refine Wo.loadHc hK ?_
        | refine Wv ?_
        | refine Wz ?_
        | fail)
      all_goals exact Wl.retFE (us := [.lst ((a :: out).map iv), iv 0]) F
  | cons z r =>
    have hlen1 : s1.list.length = r.length + 1 := by rw [hl1]; rfl
    have hz : s1.list[0]? = some z := by rw [hl1]; rfl
    have hz2 : s1.list[(0 : Int).toNat]? = some z := hz
    by_cases hd : z.due ≤ now + n
    · have hG2 : ∀ s2 : Sl Tm, s2.list = s1.list.drop (1 : Int).toNat → s2.list = r ∧ (out ++ [z.key]) ++ (goT (now + n) s2.list).1 = (goT (now + n) ts).1 ∧ (goT (now + n) s2.list).2 = (goT (now + n) ts).2 := fun s2 h2 => by
        have h3 : s2.list = r := by rw [h2, hl1]; rfl
        rw [h3]
        rw [hl1] at hG hR
        refine ⟨rfl, ?_, ?_⟩
        · rw [← hG, List.append_assoc, goT, if_pos hd]; rfl
        · rw [← hR, goT, if_pos hd]
      cases out with
      | nil =>
        subst he
        dsimp only [List.isEmpty, cond]
        repeat' (first
          | intro _
          | refine Ws ?_
          | (refine Wt ?_ ?_ <;> intro _ <;> try (exfalso; omega))
          | (refine Wu ?_ ?_ <;> intro _)
          | refine Wo.loadHc hK ?_
          | refine Wo.app1n (enc := iv) (fun _ => rfl) (fun _ => ?_)
          | refine Wo.storeHsl hK rfl ?_
          | refine Wv ?_
          | refine Wz ?_
          | fail)
        all_goals
          rename_i s2 hs2
          obtain ⟨e1, e2, e3⟩ := hG2 s2 hs2
          exact RdH (K.set xo (some (.cells [iv (now + n), slV tmV s2])), s2, [z.key], false, _, 1) (by dsimp only; rw [e1]; simp) ⟨set_eq, hKx, hT.trans (Rf.put (now := now + n) (ts := s2.list) hKx rfl).2, e2, e3, rfl, rfl, by rw [e1]; simp at hl ⊢; omega⟩ rfl
      | cons a out =>
        subst he
        dsimp only [List.isEmpty, cond]
        repeat' (first
          | intro _
          | refine Ws ?_
          | (refine Wt ?_ ?_ <;> intro _ <;> try (exfalso; omega))
          | (refine Wu ?_ ?_ <;> intro _)
          | refine Wo.loadHc hK ?_
          | refine Wo.app1 (enc := iv) (fun _ => ?_)
          | refine Wo.storeHsl hK rfl ?_
          | refine Wv ?_
          | refine Wz ?_
          | fail)
        all_goals
          rename_i s2 hs2
          obtain ⟨e1, e2, e3⟩ := hG2 s2 hs2
          exact RdH (K.set xo (some (.cells [iv (now + n), slV tmV s2])), s2, (a :: out).take (a :: out).length ++ [z.key], false, _, (a :: out).length + 1) (by dsimp only; rw [e1]; simp) ⟨set_eq, hKx, hT.trans (Rf.put (now := now + n) (ts := s2.list) hKx rfl).2, by rw [List.take_length]; exact e2, e3, by rw [List.take_length]; rfl, by rw [List.take_length]; simp, by rw [e1]; simp at hl ⊢; omega⟩ rfl
    · cases out with
      | nil =>
        have F := stop (.inr ⟨z, r, hl1, hd⟩) none rfl
        subst he
        dsimp only [List.isEmpty, cond]
        repeat' (first
          | intro _
          | refine Ws ?_
          | (refine Wt ?_ ?_ <;> intro _ <;> try (exfalso; omega))
          | (refine Wu ?_ ?_ <;> intro _)
          | refine Wo.loadHc hK ?_
          | refine Wv ?_
          | refine Wz ?_
          | fail)
        all_goals exact Wl.retFE (us := [.nils, iv 0]) F
      | cons a out =>
        have F := stop (.inr ⟨z, r, hl1, hd⟩) (some (a :: out)) rfl
        subst he
        dsimp only [List.isEmpty, cond]
        repeat' (first
          | intro _
          | refine Ws ?_
          | (refine Wt ?_ ?_ <;> intro _ <;> try (exfalso; omega))
          | (refine Wu ?_ ?_ <;> intro _)
          | refine Wo.loadHc hK ?_
          | refine Wv ?_
          | refine Wz ?_
          | fail)
        all_goals exact Wl.retFE (us := [.lst ((a :: out).map iv), iv 0]) F
end Go.Vi.CYtmcojibgjibkdaa
