/-
  FilterChecks: the law answers true, whatever comes in, and the input reads as it did.
-/
import Derived.Test.YtnloddhadlpajaaCpM
import Derived.Test.YtnloddhadlpajaaCpX
import Derived.ProofKit
import Derived.OpenShut
import Derived.ShutString
import Derived.ChangeOld
import Derived.SizedLaws
namespace Go.Proofs.Ytnloddhadlpajaa.filterChecks
open Go.ChangeShapes Go.WideShapes Go.ChangeAt Go.RowKit Go.Vi Go.Vi.CYtnloddhadlpajaa
open Go.ChangeMaps (open_string shut_string)
set_option linter.unusedVariables false
theorem own : ownKnob Try.prog.godebug = none := by kernel_rfl
theorem laidOut : laidOutB Try.prog = true := by kernel_rfl
set_option maxRecDepth 100000 in
theorem lifted (os : Os) (started : os.Started) (H : Type) (enc : TypeId × Value → H) :
    ReturnsInHanded {} Try.checked os 3 .any (Rows.filterChecksSpec.pre6 enc Try.prog Try.f3 Rows.filterChecksRow.domain false) (Rows.filterChecksSpec.post enc Try.prog Try.f3 false true false false) := by
  refine returnsInHanded_of_change_sized (C := Try.checked) own started (by kernel_rfl) Try.func3
    (ChangeSpec.witness6 (enc := enc) (C := Try.checked) false ⟨#[], #[.slice none 0 0, .string ⟨#[]⟩], []⟩ 8 (by kernel_rfl) (by kernel_rfl) (by kernel_rfl) (by kernel_rfl)) ?_
  intro W base args ds gs before hval0 hW hcnd hsz0 _
  have hsz : (DataW.weightsEach Try.prog (Try.f3.params.toList ++ Rows.filterChecksSpec.plain.varTypes Try.prog) (ds ++ gs)).all (· ≤ reachBytes) = true := hsz0
  have hval : ∀ (j : Nat) t v, Try.f3.params[j]? = some t → args[j]? = some v → Value.okWide Try.prog W .any base t v := hval0
  have hW' := hW
  obtain ⟨p, q, hA0, hV, rfl, hfz, hnd⟩ := hW
  have hA : DataW.TrodAll enc Try.prog W 0 (fun _ => true) true Try.f3.params.toList args.toList ds p := hA0
  rw [Try.params3] at hA hval hsz
  obtain ⟨v0, vs0, d0, ds0, p0, q0, hargs, rfl, rfl, h0, r0⟩ := trodAll_cons hA
  obtain ⟨v1, vs1, d1, ds1, p1, q1, rfl, rfl, rfl, h1, r1⟩ := trodAll_cons r0
  obtain ⟨rfl, rfl, rfl⟩ := trodAll_nil r1
  obtain rfl : args = #[v0, v1] := by cases args; simp_all
  obtain ⟨rfl, rfl⟩ := trodVars_none hV
  obtain ⟨a0, n0, c0, rfl⟩ := okWide_slice Try.underlying22 (hval 0 22 v0 rfl rfl)
  have k0 := h0
  have lt0 : ∀ x ∈ p0, x.block < W.heap.size := by obtain ⟨m, hm⟩ := k0; exact DataW.trod_lt m _ _ _ hm
  have z0 := weightsEach_at hsz 0 22 d0 rfl rfl
  obtain ⟨x0, hk0, g0⟩ : ∃ x : Sl ByteArray, CellsRel W (slV VV.str x).cells [.slice a0 n0 c0] ∧ (Sl.ok x ∧ ∀ y ∈ x.list, y.size ≤ 140737488351232) := by
    obtain ⟨fuel, hf⟩ := h0
    exact op_strs.2.2 _ _ _ _ _ _ _ _ _ hf z0
  obtain ⟨s1, rfl⟩ := okWide_string Try.underlying9 (hval 1 9 v1 rfl rfl)
  have k1 := h1
  have lt1 : ∀ x ∈ p1, x.block < W.heap.size := by obtain ⟨m, hm⟩ := k1; exact DataW.trod_lt m _ _ _ hm
  have z1 := weightsEach_at hsz 1 9 d1 rfl rfl
  obtain ⟨x1, hk1, g1⟩ : ∃ x : ByteArray, CellsRel W (VV.str x).cells [.string s1] ∧ x.size ≤ 140737488351232 := by
    obtain ⟨fuel, hf⟩ := h1
    exact op_str.2.2 _ _ _ _ _ _ _ _ _ hf z1
  clear hA0 hval0 hsz0 hsz
  refine (top (us := [slV VV.str x0, VV.str x1]) (vals := [.slice a0 n0 c0, .string s1]) (fun H => r_FilterChecks x0 x1 g0.1 g0.2 H) rfl (fun i x v hx hv => ?_)).mono fun e W' he => ?_
  · match i with
    | 0 => simp only [List.getElem?_cons_zero, Option.some.injEq] at hx hv; subst hx; subst hv; exact WR.of_one rfl cells_sl hk0
    | 1 => simp only [List.getElem?_cons_succ, List.getElem?_cons_zero, Option.some.injEq] at hx hv; subst hx; subst hv; exact WR.of_one rfl rfl hk1
    | i + 2 => simp at hx
  obtain ⟨rfl, bel0⟩ := he
  have bel := bel0
  exact ⟨_, rfl, _, _, _, [], _, [], hW', trodAll_mk1 (shut_bool Try.underlying4 _), (trodAll_cons_mk (Below.trod laidOut (by kernel_rfl) (of_decide_eq_true (by kernel_rfl)) k0 bel lt0) (trodAll_cons_mk (Below.trod laidOut (by kernel_rfl) (of_decide_eq_true (by kernel_rfl)) k1 bel lt1) trodAll_mk0)), rfl, bel.frame _, fun h => by cases h⟩
theorem over : Rows.filterChecksRow.holds Try.pinned (OpenSpec.ofChange Rows.filterChecksSpec) :=
  OpenClaim.holds_of_wide 3 Try.f3 rfl rfl rfl rfl rfl rfl rfl ⟨rfl, rfl, rfl, rfl, rfl⟩ rfl rfl rfl rfl rfl (by kernel_rfl) Try.func3 (by kernel_rfl)
    (of_decide_eq_true (by kernel_rfl)) (by unfold Func.isWrapper; first | (rw [if_pos (by decide +kernel)]; kernel_rfl) | (rw [if_neg (by decide +kernel)]; exact ⟨rfl, rfl⟩))
    (fun os started H enc _ => lifted os started H enc)
theorem proved : Rows.FilterChecksSaid := over
#print axioms proved
end Go.Proofs.Ytnloddhadlpajaa.filterChecks
namespace Go.Proofs.Ytnloddhadlpajaa
/-- The row, under a short name, for the claim. -/
theorem filterChecks_holds : Rows.FilterChecksSaid := filterChecks.proved
end Go.Proofs.Ytnloddhadlpajaa
