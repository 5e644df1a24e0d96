-- Written by a program (wip/tools/gprint.py: a patched copy of the kit's print) and by hand, for this claim
import Derived.Test.YthhnecbfcpmpbaaPAx9
import Derived.Test.YthhnecbfcpmpbaaOOpens
namespace Go.Proofs.Ythhnecbfcpmpbaa.SaidExprSame
open Go.RowKit Go.Proofs.Ythhnecbfcpmpbaa.PA Go.Proofs.YthhnecbfcpmpbaaW.PrintWords Go.Proofs.YthhnecbfcpmpbaaW.PrintLast Go.Proofs.YthhnecbfcpmpbaaO
def good45 (x : S45) : Prop := ((Lit.int .i64 x.f0).wf = true) ∧ ((Lit.int .i64 x.f1).wf = true)
theorem opens45 : Opens Try.prog 45 k45 good45 := opens_imp (opens_iso (opens_struct Try.underlying45 (by kernel_rfl) (opensF_cons rfl (opens_int Try.underlying3 (by kernel_rfl)) (opensF_one rfl (opens_int Try.underlying3 (by kernel_rfl))))) _ (fun p => ⟨p.1, p.2⟩) (fun _ => rfl)) (fun _ h => h)
def surmiselaw03_ExprSame.Pure : Prop := ∀ (x0 : List (S45)) (x1 : List Int) (x2 : List Int), (x0.length ≤ maxLen ∧ x0.length * 16 ≤ 140737488351232 ∧ ∀ y ∈ x0, good45 y) → (x1.length ≤ maxLen ∧ x1.length * 8 ≤ 140737488351232 ∧ ∀ y ∈ x1, (Lit.int .i64 y).wf = true) → (x2.length ≤ maxLen ∧ x2.length * 8 ≤ 140737488351232 ∧ ∀ y ∈ x2, (Lit.int .i64 y).wf = true) → ∃ k, surmiselaw03_ExprSame.f k x0 x1 x2 = some true
end Go.Proofs.Ythhnecbfcpmpbaa.SaidExprSame
