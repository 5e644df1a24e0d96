/-
  What is read of three filters and a stream.
-/
import Derived.Test.YtnloddhadlpajaaCqB
import Derived.Test.YtnloddhadlpajaaCpM
namespace Go.Vi.CYtnloddhadlpajaa
open Go.Vi Go.Proofs Go.Proofs.Ytnloddhadlpajaa Go.RowKit
set_option linter.unusedVariables false
set_option maxRecDepth 100000
theorem op_fo : OpensV Try.prog 33 ⟨4, foV⟩ (fun x => (Sl.ok x.a ∧ ∀ y ∈ x.a.list, y.size ≤ 140737488351232) ∧ (Sl.ok x.b ∧ ∀ y ∈ x.b.list, y.size ≤ 140737488351232) ∧ (Sl.ok x.c ∧ ∀ y ∈ x.c.list, y.size ≤ 140737488351232) ∧ x.s.size ≤ 140737488351232) :=
  op_as (opensV_struct (f := fun x : Fo => (x.a, x.b, x.c, x.s)) (inv := fun p => ⟨p.1, p.2.1, p.2.2.1, p.2.2.2⟩) (hi := fun _ => rfl) Try.underlying33 (by kernel_rfl)
    (opensVF_cons rfl op_strs (opensVF_cons rfl op_strs (opensVF_cons rfl op_strs (opensVF_one rfl op_str))))) (fun _ h => h) rfl (fun x => by simp only [Kv.struct, Kf.pair, Kf.one, cells_sl, cells_str, List.cons_append, List.nil_append]; rfl)
end Go.Vi.CYtnloddhadlpajaa
