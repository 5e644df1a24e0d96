/-
  FilterUnion: the law answers true, whatever comes in, and the input reads as it did.
-/
import Derived.Test.YtnloddhadlpajaaCpM
import Derived.Test.YtnloddhadlpajaaCqC
import Derived.ProofKit
import Derived.OpenShut
import Derived.ShutString
import Derived.ChangeOld
import Derived.SizedLaws
namespace Go.Proofs.Ytnloddhadlpajaa.filterUnion
open Go.ChangeShapes Go.WideShapes Go.ChangeAt Go.RowKit Go.Vi Go.Vi.CYtnloddhadlpajaa
open Go.ChangeMaps (open_string shut_string)
set_option linter.unusedVariables false
theorem own : ownKnob Try.prog.godebug = none := by kernel_rfl
theorem laidOut : laidOutB Try.prog = true := by kernel_rfl
set_option maxRecDepth 100000 in
theorem lifted (os : Os) (started : os.Started) (H : Type) (enc : TypeId × Value → H) :
    ReturnsInHanded {} Try.checked os 6 .any (Rows.filterUnionSpec.pre6 enc Try.prog Try.f6 Rows.filterUnionRow.domain false) (Rows.filterUnionSpec.post enc Try.prog Try.f6 false true false false) := by
  refine returnsInHanded_of_change_sized (C := Try.checked) own started (by kernel_rfl) Try.func6
    (ChangeSpec.witness6 (enc := enc) (C := Try.checked) false ⟨#[], #[.agg #[.slice none 0 0, .slice none 0 0, .slice none 0 0, .string ⟨#[]⟩]], []⟩ 8 (by kernel_rfl) (by kernel_rfl) (by kernel_rfl) (by kernel_rfl)) ?_
  intro W base args ds gs before hval0 hW hcnd hsz0 _
  have hsz : (DataW.weightsEach Try.prog (Try.f6.params.toList ++ Rows.filterUnionSpec.plain.varTypes Try.prog) (ds ++ gs)).all (· ≤ reachBytes) = true := hsz0
  have hval : ∀ (j : Nat) t v, Try.f6.params[j]? = some t → args[j]? = some v → Value.okWide Try.prog W .any base t v := hval0
  have hW' := hW
  obtain ⟨p, q, hA0, hV, rfl, hfz, hnd⟩ := hW
  have hA : DataW.TrodAll enc Try.prog W 0 (fun _ => true) true Try.f6.params.toList args.toList ds p := hA0
  rw [Try.params6] at hA hval hsz
  obtain ⟨v0, vs0, d0, ds0, p0, q0, hargs, rfl, rfl, h0, r0⟩ := trodAll_cons hA
  obtain ⟨rfl, rfl, rfl⟩ := trodAll_nil r0
  obtain rfl : args = #[v0] := by cases args; simp_all
  obtain ⟨rfl, rfl⟩ := trodVars_none hV
  obtain ⟨cs0, rfl, _⟩ := okWide_struct Try.underlying33 (hval 0 33 v0 rfl rfl)
  have k0 := h0
  have lt0 : ∀ x ∈ p0, x.block < W.heap.size := by obtain ⟨m, hm⟩ := k0; exact DataW.trod_lt m _ _ _ hm
  have z0 := weightsEach_at hsz 0 33 d0 rfl rfl
  obtain ⟨x0, hk0, g0⟩ : ∃ x : Fo, CellsRel W (foV x).cells cs0.toList ∧ ((Sl.ok x.a ∧ ∀ y ∈ x.a.list, y.size ≤ 140737488351232) ∧ (Sl.ok x.b ∧ ∀ y ∈ x.b.list, y.size ≤ 140737488351232) ∧ (Sl.ok x.c ∧ ∀ y ∈ x.c.list, y.size ≤ 140737488351232) ∧ x.s.size ≤ 140737488351232) := by
    obtain ⟨fuel, hf⟩ := h0
    exact op_fo.2.2 _ _ _ _ _ _ _ _ _ hf z0
  clear hA0 hval0 hsz0 hsz
  refine (top (us := [foV x0]) (vals := [.agg cs0]) (fun H => r_FilterUnion x0 g0.1.1 g0.2.1.1 g0.2.2.1.1 g0.1.2 g0.2.1.2 g0.2.2.1.2 H) rfl (fun i x v hx hv => ?_)).mono fun e W' he => ?_
  · match i with
    | 0 => simp only [List.getElem?_cons_zero, Option.some.injEq] at hx hv; subst hx; subst hv; exact WR.of_cells hk0
    | i + 1 => simp at hx
  obtain ⟨rfl, bel0⟩ := he
  have bel := bel0
  exact ⟨_, rfl, _, _, _, [], _, [], hW', trodAll_mk1 (shut_bool Try.underlying4 _), (trodAll_cons_mk (Below.trod laidOut (by kernel_rfl) (of_decide_eq_true (by kernel_rfl)) k0 bel lt0) trodAll_mk0), rfl, bel.frame _, fun h => by cases h⟩
theorem over : Rows.filterUnionRow.holds Try.pinned (OpenSpec.ofChange Rows.filterUnionSpec) :=
  OpenClaim.holds_of_wide 6 Try.f6 rfl rfl rfl rfl rfl rfl rfl ⟨rfl, rfl, rfl, rfl, rfl⟩ rfl rfl rfl rfl rfl (by kernel_rfl) Try.func6 (by kernel_rfl)
    (of_decide_eq_true (by kernel_rfl)) (by unfold Func.isWrapper; first | (rw [if_pos (by decide +kernel)]; kernel_rfl) | (rw [if_neg (by decide +kernel)]; exact ⟨rfl, rfl⟩))
    (fun os started H enc _ => lifted os started H enc)
theorem proved : Rows.FilterUnionSaid := over
#print axioms proved
end Go.Proofs.Ytnloddhadlpajaa.filterUnion
namespace Go.Proofs.Ytnloddhadlpajaa
/-- The row, under a short name, for the claim. -/
theorem filterUnion_holds : Rows.FilterUnionSaid := filterUnion.proved
end Go.Proofs.Ytnloddhadlpajaa
