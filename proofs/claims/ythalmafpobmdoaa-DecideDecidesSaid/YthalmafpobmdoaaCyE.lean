/-
  When a table stands: the two sides of chapter 07.
-/
import Derived.Test.YthalmafpobmdoaaCyD
import Derived.Test.YthalmafpobmdoaaCxQ
namespace Go.Vi.CYthalmafpobmdoaa
open Go.Vi Go.Proofs Go.Proofs.Ythalmafpobmdoaa
set_option linter.unusedVariables false
set_option maxHeartbeats 8000000
set_option maxRecDepth 100000
set_option linter.unusedSimpArgs false

structure Stt where
  at' : Int
  ver : Int
  vars : Sl Int
@[reducible] def sttV (s : Stt) : VV := .agg [iv s.at', iv s.ver, slV iv s.vars]
def Stt.ok (s : Stt) : Prop := w64 s.at' ∧ w64 s.ver ∧ Sl.ok s.vars ∧ ∀ y ∈ s.vars.list, w64 y

/-- the table's check finds nothing -/
def rightB (t : Tb) : Bool := ((check' t).e == 0 && ((check' t).r == 0 && ((check' t).p == 0 && ((check' t).a == 0 && true))))
theorem r_dright (t : Tb) (ht : t.ok) (H : Hp) : Runs Try.prog pol 22 [.val (tbV t)] H ([.val (.bool (rightB t))], [], H) := by
  refine Runs.told (fn := Try.f22) (n := 7) [(0, .val (tbV t))] [(0, .gone 0)] rfl Try.func22 rfl rfl (by kernel_rfl) rfl (by repeat' constructor) (by repeat' constructor) ?_
  repeat' (first
    | intro _
    | refine Ws ?_
    | (refine Wt ?_ ?_ <;> intro _ <;> try (exfalso; omega))
    | (refine Wu ?_ ?_ <;> intro _)
    | refine Wo.call0 (r_Check _ ht) ?_
    | refine Wv ?_
    | refine Wz ?_
    | fail)
  all_goals (rename_i g; unfold rightB; rw [g])
theorem r_lright (t : Tb) (ht : t.ok) (H : Hp) : Runs Try.prog pol 9 [.val (tbV t)] H ([.val (.bool (rightB t))], [], H) := by
  refine Runs.told (fn := Try.f9) (n := 7) [(0, .val (tbV t))] [(0, .gone 0)] rfl Try.func9 rfl rfl (by kernel_rfl) rfl (by repeat' constructor) (by repeat' constructor) ?_
  repeat' (first
    | intro _
    | refine Ws ?_
    | (refine Wt ?_ ?_ <;> intro _ <;> try (exfalso; omega))
    | (refine Wu ?_ ?_ <;> intro _)
    | refine Wo.call0 (r_RCheck _ ht) ?_
    | refine Wv ?_
    | refine Wz ?_
    | fail)
  all_goals (rename_i g; unfold rightB; rw [g])
end Go.Vi.CYthalmafpobmdoaa
