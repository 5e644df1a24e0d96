-- Written by a program (wip/tools/gprint.py: a patched copy of the kit's print) and by hand, for this claim
import Derived.Test.YthhnecbfcpmpbaaPAx11
import Derived.Test.YthhnecbfcpmpbaaOOpens
namespace Go.Proofs.Ythhnecbfcpmpbaa.SaidExprValues
open Go.RowKit Go.Proofs.Ythhnecbfcpmpbaa.PA Go.Proofs.YthhnecbfcpmpbaaW.PrintWords Go.Proofs.YthhnecbfcpmpbaaW.PrintLast Go.Proofs.YthhnecbfcpmpbaaO
def good45 (x : S45) : Prop := ((Lit.int .i64 x.f0).wf = true) ∧ ((Lit.int .i64 x.f1).wf = true)
theorem opens45 : Opens Try.prog 45 k45 good45 := opens_imp (opens_iso (opens_struct Try.underlying45 (by kernel_rfl) (opensF_cons rfl (opens_int Try.underlying3 (by kernel_rfl)) (opensF_one rfl (opens_int Try.underlying3 (by kernel_rfl))))) _ (fun p => ⟨p.1, p.2⟩) (fun _ => rfl)) (fun _ h => h)
def good41 (x : S41) : Prop := (x.f0.length ≤ maxLen ∧ x.f0.length * 16 ≤ 140737488351232 ∧ ∀ y ∈ x.f0, good45 y) ∧ (x.f1.length ≤ maxLen ∧ x.f1.length * 8 ≤ 140737488351232 ∧ ∀ y ∈ x.f1, (Lit.int .i64 y).wf = true) ∧ (x.f2.length ≤ maxLen ∧ x.f2.length * 8 ≤ 140737488351232 ∧ ∀ y ∈ x.f2, (Lit.int .i64 y).wf = true) ∧ ((Lit.int .i64 x.f3).wf = true)
theorem opens41 : Opens Try.prog 41 k41 good41 := opens_imp (opens_iso (opens_struct Try.underlying41 (by kernel_rfl) (opensF_cons rfl (opens_slice Try.underlying22 (by kernel_rfl) (by kernel_rfl) opens45) (opensF_cons rfl (opens_slice Try.underlying28 (by kernel_rfl) (by kernel_rfl) (opens_int Try.underlying3 (by kernel_rfl))) (opensF_cons rfl (opens_slice Try.underlying28 (by kernel_rfl) (by kernel_rfl) (opens_int Try.underlying3 (by kernel_rfl))) (opensF_one rfl (opens_int Try.underlying3 (by kernel_rfl))))))) _ (fun p => ⟨p.1, p.2.1, p.2.2.1, p.2.2.2⟩) (fun _ => rfl)) (fun _ h => h)
def surmiselaw03_ExprValues.Pure : Prop := ∀ (x0 : S41), (good41 x0) → ∃ k, surmiselaw03_ExprValues.f k x0.f0 x0.f1 x0.f2 x0.f3 = some true
end Go.Proofs.Ythhnecbfcpmpbaa.SaidExprValues
