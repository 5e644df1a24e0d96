/-
  Patterns, whole: the program's and the reference's.
-/
import Derived.Test.YtnloddhadlpajaaCpE
namespace Go.Vi.CYtnloddhadlpajaa
open Go.Vi Go.Proofs Go.Proofs.Ytnloddhadlpajaa
set_option linter.unusedVariables false
set_option maxHeartbeats 4000000
set_option maxRecDepth 100000
set_option linter.unusedSimpArgs false

def meetsB (p q : ByteArray) : Bool := patternB p && patternB q && meetF ((openS p).list, openM p) ((openS q).list, openM q)
theorem r_Meets (p q : ByteArray) (H : Hp) : Runs Try.prog pol 40 [.val (.str p), .val (.str q)] H ([.val (.bool (meetsB p q))], [], H) := by
  cases hp : patternB p with
  | false =>
    refine Runs.told (fn := Try.f40) (n := 66) [(0, .val (.str p)), (1, .val (.str q))] [(0, .gone 0), (1, .gone 0)] rfl Try.func40 rfl rfl (by kernel_rfl) rfl (by repeat' constructor) (by repeat' constructor) ?_
    have h1 := r_Pattern p
    rw [hp] at h1
    repeat' (first
      | intro _
      | refine Ws ?_
      | (refine Wt ?_ ?_ <;> intro _ <;> try (exfalso; omega))
      | (refine Wu ?_ ?_ <;> intro _)
      | refine Wo.call0 (h1) ?_
      | refine Wv ?_
      | refine Wz ?_
      | fail)
    simp [meetsB, hp]
  | true =>
    cases hs : patternB q with
    | false =>
      refine Runs.told (fn := Try.f40) (n := 66) [(0, .val (.str p)), (1, .val (.str q))] [(0, .gone 0), (1, .gone 0)] rfl Try.func40 rfl rfl (by kernel_rfl) rfl (by repeat' constructor) (by repeat' constructor) ?_
      have h1 := r_Pattern p
      rw [hp] at h1
      have h2 := r_Pattern q
      rw [hs] at h2
      repeat' (first
        | intro _
        | refine Ws ?_
        | (refine Wt ?_ ?_ <;> intro _ <;> try (exfalso; omega))
        | (refine Wu ?_ ?_ <;> intro _)
        | refine Wo.call0 (h1) ?_
        | refine Wo.call0 (h2) ?_
        | refine Wv ?_
        | refine Wz ?_
        | fail)
      simp [meetsB, hs]
    | true =>
      have hpl := allB_le hp
      have hsl := allB_le hs
      have h1 := r_Pattern p
      rw [hp] at h1
      have h2 := r_Pattern q
      rw [hs] at h2
      have ho1 := openS_ok p hpl
      have ho2 := openS_ok q hsl
      unfold Sl.ok at ho1 ho2
      have h3 : ∀ a b : Sl ByteArray, a.list = (openS p).list.take (if ((openS q).list.length : Int) < ((openS p).list.length : Int) then ((openS q).list.length : Int) else ((openS p).list.length : Int)).toNat → b.list = (openS q).list.take (if ((openS q).list.length : Int) < ((openS p).list.length : Int) then ((openS q).list.length : Int) else ((openS p).list.length : Int)).toNat →
          ∀ H, Runs Try.prog pol 54 [.val (slV VV.str a), .val (slV VV.str b), .val (.func 60 [] [])] H ([.val (.bool (agR meR ((openS p).list.take (min (openS p).list.length (openS q).list.length)) ((openS q).list.take (min (openS p).list.length (openS q).list.length))))], [], H) := by
        intro a b ha hb H
        have e : (if ((openS q).list.length : Int) < ((openS p).list.length : Int) then ((openS q).list.length : Int) else ((openS p).list.length : Int)).toNat = min (openS p).list.length (openS q).list.length := by split <;> omega
        rw [e] at ha hb
        rw [← ha, ← hb]
        exact r_against a b _ meR (by unfold Sl.ok; rw [ha, List.length_take]; omega) (by unfold Sl.ok; rw [hb, List.length_take]; omega) r_Meets1 H
      have h4 := r_open p hpl
      have h5 := r_open q hsl
      cases hm : openM p <;> rw [hm] at h4 <;> cases hn : openM q <;> rw [hn] at h5
      all_goals
        refine Runs.told (fn := Try.f40) (n := 66) [(0, .val (.str p)), (1, .val (.str q))] [(0, .gone 0), (1, .gone 0)] rfl Try.func40 rfl rfl (by kernel_rfl) rfl (by repeat' constructor) (by repeat' constructor) ?_
        repeat' (first
          | intro _
          | refine Ws ?_
          | (refine Wt ?_ ?_ <;> intro _ <;> try (exfalso; omega))
          | (refine Wu ?_ ?_ <;> intro _)
          | refine Wo.call0 (h1) ?_
          | refine Wo.call0 (h2) ?_
          | refine Wo.call0 (h4) ?_
          | refine Wo.call0 (h5) ?_
          | refine Wo.callB (h3 _ _ (by assumption) (by assumption)) (fun _ => ?_) (fun _ => ?_)
          | refine Wv ?_
          | refine Wz ?_
          | fail)
        all_goals first
          | (simp [meetsB, meetF, *]; done)
          | (simp [meetsB, meetF, *]; omega)
          | trace_state
theorem match_ok {p s : ByteArray} (h : patternB p = true) : matchL (partsS p).list (partsS s).list = (agR eqR (openS p).list (partsS s).list && (openM p || decide ((openS p).list.length = (partsS s).list.length))) := by
  rw [match_eq _ _ (pat_ok h), ← open_is h]
theorem covers_ok {p s : ByteArray} (h : patternB p = true) (h2 : patternB s = true) : coversL (partsS p).list (partsS s).list = (agR eqR (openS p).list (openS s).list && (openM p || (decide ((openS p).list.length = (openS s).list.length) && !openM s))) := by
  rw [covers_eq _ _ (pat_ok h) (pat_ok h2), ← open_is h, ← open_is h2]
theorem meets_ok {p s : ByteArray} (h : patternB p = true) (h2 : patternB s = true) : meetsL (partsS p).list (partsS s).list = meetF ((openS p).list, openM p) ((openS s).list, openM s) := by
  rw [meets_eq _ _ (pat_ok h) (pat_ok h2), open_is h, open_is h2]
theorem r_RMatch (p q : ByteArray) (H : Hp) : Runs Try.prog pol 33 [.val (.str p), .val (.str q)] H ([.val (.bool (matchB p q))], [], H) := by
  cases hp : patternB p with
  | false =>
    refine Runs.told (fn := Try.f33) (n := 18) [(0, .val (.str p)), (1, .val (.str q))] [(0, .gone 0), (1, .gone 0)] rfl Try.func33 rfl rfl (by kernel_rfl) rfl (by repeat' constructor) (by repeat' constructor) ?_
    have h1 := r_RPattern p
    rw [hp] at h1
    repeat' (first
      | intro _
      | refine Ws ?_
      | (refine Wt ?_ ?_ <;> intro _ <;> try (exfalso; omega))
      | (refine Wu ?_ ?_ <;> intro _)
      | refine Wo.call0 (h1) ?_
      | refine Wv ?_
      | refine Wz ?_
      | fail)
    simp [matchB, hp]
  | true =>
    have hpl := allB_le hp
    have h1 := r_RPattern p
    rw [hp] at h1
    cases hs : streamB q with
    | false =>
      have h2 := r_RStream q
      rw [hs] at h2
      refine Runs.told (fn := Try.f33) (n := 18) [(0, .val (.str p)), (1, .val (.str q))] [(0, .gone 0), (1, .gone 0)] rfl Try.func33 rfl rfl (by kernel_rfl) rfl (by repeat' constructor) (by repeat' constructor) ?_
      repeat' (first
        | intro _
        | refine Ws ?_
        | (refine Wt ?_ ?_ <;> intro _ <;> try (exfalso; omega))
        | (refine Wu ?_ ?_ <;> intro _)
        | refine Wo.call0 (h1) ?_
        | refine Wo.call0 (h2) ?_
        | refine Wv ?_
        | refine Wz ?_
        | fail)
      simp [matchB, hp, hs]
    | true =>
      have hsl := allB_le hs
      have h2 := r_RStream q
      rw [hs] at h2
      have h3 := r_matchL 40 (partsS p) (partsS q) (by have := ps_len p; omega) (partsS_ok p hpl) (partsS_ok q hsl)
      refine Runs.told (fn := Try.f33) (n := 18) [(0, .val (.str p)), (1, .val (.str q))] [(0, .gone 0), (1, .gone 0)] rfl Try.func33 rfl rfl (by kernel_rfl) rfl (by repeat' constructor) (by repeat' constructor) ?_
      repeat' (first
        | intro _
        | refine Ws ?_
        | (refine Wt ?_ ?_ <;> intro _ <;> try (exfalso; omega))
        | (refine Wu ?_ ?_ <;> intro _)
        | refine Wo.call0 (h1) ?_
        | refine Wo.call0 (h2) ?_
        | refine Wo.call0 (r_RPartsS p hpl) ?_
        | refine Wo.call0 (r_RPartsS q hsl) ?_
        | refine Wo.call0 (h3) ?_
        | refine Wv ?_
        | refine Wz ?_
        | fail)
      all_goals (simp [matchB, match_ok, *, Bool.and_assoc]; done)
theorem r_RCovers (p q : ByteArray) (H : Hp) : Runs Try.prog pol 37 [.val (.str p), .val (.str q)] H ([.val (.bool (coversB p q))], [], H) := by
  cases hp : patternB p with
  | false =>
    refine Runs.told (fn := Try.f37) (n := 18) [(0, .val (.str p)), (1, .val (.str q))] [(0, .gone 0), (1, .gone 0)] rfl Try.func37 rfl rfl (by kernel_rfl) rfl (by repeat' constructor) (by repeat' constructor) ?_
    have h1 := r_RPattern p
    rw [hp] at h1
    repeat' (first
      | intro _
      | refine Ws ?_
      | (refine Wt ?_ ?_ <;> intro _ <;> try (exfalso; omega))
      | (refine Wu ?_ ?_ <;> intro _)
      | refine Wo.call0 (h1) ?_
      | refine Wv ?_
      | refine Wz ?_
      | fail)
    simp [coversB, hp]
  | true =>
    have hpl := allB_le hp
    have h1 := r_RPattern p
    rw [hp] at h1
    cases hs : patternB q with
    | false =>
      have h2 := r_RPattern q
      rw [hs] at h2
      refine Runs.told (fn := Try.f37) (n := 18) [(0, .val (.str p)), (1, .val (.str q))] [(0, .gone 0), (1, .gone 0)] rfl Try.func37 rfl rfl (by kernel_rfl) rfl (by repeat' constructor) (by repeat' constructor) ?_
      repeat' (first
        | intro _
        | refine Ws ?_
        | (refine Wt ?_ ?_ <;> intro _ <;> try (exfalso; omega))
        | (refine Wu ?_ ?_ <;> intro _)
        | refine Wo.call0 (h1) ?_
        | refine Wo.call0 (h2) ?_
        | refine Wv ?_
        | refine Wz ?_
        | fail)
      simp [coversB, hp, hs]
    | true =>
      have hsl := allB_le hs
      have h2 := r_RPattern q
      rw [hs] at h2
      have h3 := r_coversL 40 (partsS p) (partsS q) (by have := ps_len p; omega) (partsS_ok p hpl) (partsS_ok q hsl)
      refine Runs.told (fn := Try.f37) (n := 18) [(0, .val (.str p)), (1, .val (.str q))] [(0, .gone 0), (1, .gone 0)] rfl Try.func37 rfl rfl (by kernel_rfl) rfl (by repeat' constructor) (by repeat' constructor) ?_
      repeat' (first
        | intro _
        | refine Ws ?_
        | (refine Wt ?_ ?_ <;> intro _ <;> try (exfalso; omega))
        | (refine Wu ?_ ?_ <;> intro _)
        | refine Wo.call0 (h1) ?_
        | refine Wo.call0 (h2) ?_
        | refine Wo.call0 (r_RPartsS p hpl) ?_
        | refine Wo.call0 (r_RPartsS q hsl) ?_
        | refine Wo.call0 (h3) ?_
        | refine Wv ?_
        | refine Wz ?_
        | fail)
      all_goals (simp [coversB, covers_ok, *, Bool.and_assoc]; done)
theorem r_RMeets (p q : ByteArray) (H : Hp) : Runs Try.prog pol 41 [.val (.str p), .val (.str q)] H ([.val (.bool (meetsB p q))], [], H) := by
  cases hp : patternB p with
  | false =>
    refine Runs.told (fn := Try.f41) (n := 18) [(0, .val (.str p)), (1, .val (.str q))] [(0, .gone 0), (1, .gone 0)] rfl Try.func41 rfl rfl (by kernel_rfl) rfl (by repeat' constructor) (by repeat' constructor) ?_
    have h1 := r_RPattern p
    rw [hp] at h1
    repeat' (first
      | intro _
      | refine Ws ?_
      | (refine Wt ?_ ?_ <;> intro _ <;> try (exfalso; omega))
      | (refine Wu ?_ ?_ <;> intro _)
      | refine Wo.call0 (h1) ?_
      | refine Wv ?_
      | refine Wz ?_
      | fail)
    simp [meetsB, hp]
  | true =>
    have hpl := allB_le hp
    have h1 := r_RPattern p
    rw [hp] at h1
    cases hs : patternB q with
    | false =>
      have h2 := r_RPattern q
      rw [hs] at h2
      refine Runs.told (fn := Try.f41) (n := 18) [(0, .val (.str p)), (1, .val (.str q))] [(0, .gone 0), (1, .gone 0)] rfl Try.func41 rfl rfl (by kernel_rfl) rfl (by repeat' constructor) (by repeat' constructor) ?_
      repeat' (first
        | intro _
        | refine Ws ?_
        | (refine Wt ?_ ?_ <;> intro _ <;> try (exfalso; omega))
        | (refine Wu ?_ ?_ <;> intro _)
        | refine Wo.call0 (h1) ?_
        | refine Wo.call0 (h2) ?_
        | refine Wv ?_
        | refine Wz ?_
        | fail)
      simp [meetsB, hp, hs]
    | true =>
      have hsl := allB_le hs
      have h2 := r_RPattern q
      rw [hs] at h2
      have h3 := r_meetsL 40 (partsS p) (partsS q) (by have := ps_len p; omega) (partsS_ok p hpl) (partsS_ok q hsl)
      refine Runs.told (fn := Try.f41) (n := 18) [(0, .val (.str p)), (1, .val (.str q))] [(0, .gone 0), (1, .gone 0)] rfl Try.func41 rfl rfl (by kernel_rfl) rfl (by repeat' constructor) (by repeat' constructor) ?_
      repeat' (first
        | intro _
        | refine Ws ?_
        | (refine Wt ?_ ?_ <;> intro _ <;> try (exfalso; omega))
        | (refine Wu ?_ ?_ <;> intro _)
        | refine Wo.call0 (h1) ?_
        | refine Wo.call0 (h2) ?_
        | refine Wo.call0 (r_RPartsS p hpl) ?_
        | refine Wo.call0 (r_RPartsS q hsl) ?_
        | refine Wo.call0 (h3) ?_
        | refine Wv ?_
        | refine Wz ?_
        | fail)
      all_goals (simp [meetsB, meets_ok, *, Bool.and_assoc]; done)
end Go.Vi.CYtnloddhadlpajaa
