/-
  What tables, rules and expressions are, as values of the interpreter; what names and values may be.
-/
import Derived.Test.YtdfhbmallnegfaaV3
import Derived.Test.YtdfhbmallnegfaaRows
import Derived.KernelRfl
namespace Go.Vi.CYtdfhbmallnegfaa
open Go.Vi Go.Proofs Go.Proofs.Ytdfhbmallnegfaa
set_option linter.unusedVariables false
set_option maxHeartbeats 8000000
set_option maxRecDepth 100000

structure Ins where
  op : Int
  n : Int
structure Gd where
  code : Int
  test : Sl Ins
structure St where
  var : Int
  value : Sl Ins
structure Sp where
  sets : Sl St
  to : Int
structure Rl where
  name : ByteArray
  args : Int
  fr : Sl Int
  guards : Sl Gd
  steps : Sl Sp
structure Tb where
  states : Sl ByteArray
  vars : Sl ByteArray
  start : Sl Int
  rules : Sl Rl

abbrev iv (n : Int) : VV := .int .i64 n
abbrev insV (x : Ins) : VV := .agg [iv x.op, iv x.n]
abbrev gdV (x : Gd) : VV := .agg [iv x.code, slV insV x.test]
abbrev stV (x : St) : VV := .agg [iv x.var, slV insV x.value]
abbrev spV (x : Sp) : VV := .agg [slV stV x.sets, iv x.to]
abbrev rlV (x : Rl) : VV := .agg [.str x.name, iv x.args, slV iv x.fr, slV gdV x.guards, slV spV x.steps]
abbrev tbV (x : Tb) : VV := .agg [slV .str x.states, slV .str x.vars, slV iv x.start, slV rlV x.rules]

/-- numbers that a word bears -/
def w64 (n : Int) : Prop := -9223372036854775808 ≤ n ∧ n ≤ 9223372036854775807
/-- a slice that is not too long -/
def Sl.ok {α : Type} (s : Sl α) : Prop := s.list.length ≤ 9223372036854775807
def Ins.ok (x : Ins) : Prop := w64 x.op ∧ w64 x.n
def codeOk (s : Sl Ins) : Prop := Sl.ok s ∧ ∀ x ∈ s.list, x.ok
def Gd.ok (x : Gd) : Prop := w64 x.code ∧ codeOk x.test
def St.ok (x : St) : Prop := w64 x.var ∧ codeOk x.value
def Sp.ok (x : Sp) : Prop := (Sl.ok x.sets ∧ ∀ y ∈ x.sets.list, y.ok) ∧ w64 x.to
def Rl.ok (x : Rl) : Prop := x.name.size ≤ 140737488351232 ∧ w64 x.args ∧ (Sl.ok x.fr ∧ ∀ y ∈ x.fr.list, w64 y) ∧ (Sl.ok x.guards ∧ ∀ y ∈ x.guards.list, y.ok) ∧ (Sl.ok x.steps ∧ ∀ y ∈ x.steps.list, y.ok)
def Tb.ok (x : Tb) : Prop := (Sl.ok x.states ∧ ∀ y ∈ x.states.list, y.size ≤ 140737488351232) ∧ (Sl.ok x.vars ∧ ∀ y ∈ x.vars.list, y.size ≤ 140737488351232) ∧ (Sl.ok x.start ∧ ∀ y ∈ x.start.list, w64 y) ∧ (Sl.ok x.rules ∧ ∀ y ∈ x.rules.list, y.ok)

def dyn05 (f : FuncId) : Bool := [3,4,5,6,7,8,29].contains f
def mode05 (f : FuncId) (i : Nat) : Nat := if f = 55 then (if i = 0 then 1 else 0) else 0
def keys05 (f : FuncId) (d : Nat) : List Nat := if f = 9 then (if d = 4 then [40,41,42] else if d = 7 then [43,44,45] else []) else if f = 23 then (if d = 2000005 then [0] else if d = 3000000 then [0] else []) else []
def pol : Pol := ⟨fun f => !([23,36,8].contains f), mode05, keys05, dyn05, fun _ => none, fun f => [37,24].contains f⟩
def valueOk (n : Int) : Bool := decide (-1099511627776 ≤ n) && decide (n ≤ 1099511627776)
def letterOk (c : UInt8) : Bool := decide (97 ≤ c.toNat) && decide (c.toNat ≤ 122)
def digitOk (c : UInt8) : Bool := decide (48 ≤ c.toNat) && decide (c.toNat ≤ 57)

theorem r_value (n : Int) (H : Hp) : Runs Try.prog pol 45 [.val (iv n)] H ([.val (.bool (valueOk n))], [], H) := by
  refine Runs.told (fn := Try.f45) (n := 9) [(0, .val (iv n))] [(0, .gone 0)] rfl Try.func45 rfl rfl (by kernel_rfl) rfl (by repeat' constructor) (by repeat' constructor) ?_
  repeat' (first
    | intro _
    | refine Ws ?_
    | (refine Wt ?_ ?_ <;> intro _ <;> try (exfalso; omega))
    | (refine Wu ?_ ?_ <;> intro _)
    | refine Wv ?_
    | refine Wz ?_
    | fail)
  all_goals (simp [valueOk, *])
theorem r_value3 (n : Int) (H : Hp) : Runs Try.prog pol 65 [.val (iv n)] H ([.val (.bool (valueOk n))], [], H) := by
  refine Runs.told (fn := Try.f65) (n := 9) [(0, .val (iv n))] [(0, .gone 0)] rfl Try.func65 rfl rfl (by kernel_rfl) rfl (by repeat' constructor) (by repeat' constructor) ?_
  repeat' (first
    | intro _
    | refine Ws ?_
    | (refine Wt ?_ ?_ <;> intro _ <;> try (exfalso; omega))
    | (refine Wu ?_ ?_ <;> intro _)
    | refine Wv ?_
    | refine Wz ?_
    | fail)
  all_goals (simp [valueOk, *])
theorem r_Value3 (n : Int) (H : Hp) : Runs Try.prog pol 31 [.val (iv n)] H ([.val (.bool (valueOk n))], [], H) := by
  refine Runs.told (fn := Try.f31) (n := 9) [(0, .val (iv n))] [(0, .gone 0)] rfl Try.func31 rfl rfl (by kernel_rfl) rfl (by repeat' constructor) (by repeat' constructor) ?_
  repeat' (first
    | intro _
    | refine Ws ?_
    | (refine Wt ?_ ?_ <;> intro _ <;> try (exfalso; omega))
    | (refine Wu ?_ ?_ <;> intro _)
    | refine Wv ?_
    | refine Wz ?_
    | fail)
  all_goals (simp [valueOk, *])
theorem r_letter (c : UInt8) (H : Hp) : Runs Try.prog pol 56 [.val (.int .u8 c.toNat)] H ([.val (.bool (letterOk c))], [], H) := by
  refine Runs.told (fn := Try.f56) (n := 9) [(0, .val (.int .u8 c.toNat))] [(0, .gone 0)] rfl Try.func56 rfl rfl (by kernel_rfl) rfl (by repeat' constructor) (by repeat' constructor) ?_
  repeat' (first
    | intro _
    | refine Ws ?_
    | (refine Wt ?_ ?_ <;> intro _ <;> try (exfalso; omega))
    | (refine Wu ?_ ?_ <;> intro _)
    | refine Wv ?_
    | refine Wz ?_
    | fail)
  all_goals (simp [letterOk]; omega)

theorem r_digit (c : UInt8) (H : Hp) : Runs Try.prog pol 58 [.val (.int .u8 c.toNat)] H ([.val (.bool (digitOk c))], [], H) := by
  refine Runs.told (fn := Try.f58) (n := 9) [(0, .val (.int .u8 c.toNat))] [(0, .gone 0)] rfl Try.func58 rfl rfl (by kernel_rfl) rfl (by repeat' constructor) (by repeat' constructor) ?_
  repeat' (first
    | intro _
    | refine Ws ?_
    | (refine Wt ?_ ?_ <;> intro _ <;> try (exfalso; omega))
    | (refine Wu ?_ ?_ <;> intro _)
    | refine Wv ?_
    | refine Wz ?_
    | fail)
  all_goals (simp [digitOk]; omega)
theorem r_Rletter (c : UInt8) (H : Hp) : Runs Try.prog pol 51 [.val (.int .u8 c.toNat)] H ([.val (.bool (letterOk c))], [], H) := by
  refine Runs.told (fn := Try.f51) (n := 9) [(0, .val (.int .u8 c.toNat))] [(0, .gone 0)] rfl Try.func51 rfl rfl (by kernel_rfl) rfl (by repeat' constructor) (by repeat' constructor) ?_
  repeat' (first
    | intro _
    | refine Ws ?_
    | (refine Wt ?_ ?_ <;> intro _ <;> try (exfalso; omega))
    | (refine Wu ?_ ?_ <;> intro _)
    | refine Wv ?_
    | refine Wz ?_
    | fail)
  all_goals (simp [letterOk]; omega)
theorem r_Rdigit (c : UInt8) (H : Hp) : Runs Try.prog pol 52 [.val (.int .u8 c.toNat)] H ([.val (.bool (digitOk c))], [], H) := by
  refine Runs.told (fn := Try.f52) (n := 9) [(0, .val (.int .u8 c.toNat))] [(0, .gone 0)] rfl Try.func52 rfl rfl (by kernel_rfl) rfl (by repeat' constructor) (by repeat' constructor) ?_
  repeat' (first
    | intro _
    | refine Ws ?_
    | (refine Wt ?_ ?_ <;> intro _ <;> try (exfalso; omega))
    | (refine Wu ?_ ?_ <;> intro _)
    | refine Wv ?_
    | refine Wz ?_
    | fail)
  all_goals (simp [digitOk]; omega)
def wMin : ByteArray := ⟨#[109, 105, 110]⟩
def wMax : ByteArray := ⟨#[109, 97, 120]⟩
def wIf : ByteArray := ⟨#[105, 102]⟩
def resv (s : ByteArray) : Int := if s = wMin then 9 else if s = wMax then 10 else if s = wIf then 16 else 0
theorem r_reserved (s : ByteArray) (H : Hp) : Runs Try.prog pol 57 [.val (.str s)] H ([.val (.int .i64 (resv s))], [], H) := by
  refine Runs.told (fn := Try.f57) (n := 10) [(0, .val (.str s))] [(0, .gone 0)] rfl Try.func57 rfl rfl (by kernel_rfl) rfl (by repeat' constructor) (by repeat' constructor) ?_
  repeat' (first
    | intro _
    | refine Ws ?_
    | (refine Wt ?_ ?_ <;> intro _ <;> try (exfalso; omega))
    | (refine Wu ?_ ?_ <;> intro _)
    | refine Wv ?_
    | refine Wz ?_
    | fail)
  all_goals (simp_all [resv, wMin, wMax, wIf])
def chOk (c : UInt8) : Bool := letterOk c || digitOk c || decide ((c.toNat : Int) = 95)
def chBad (s : ByteArray) (i : Nat) : Option Unit := match s[i]? with
  | some c => if chOk c then none else some ()
  | none => none
def nameOk (s : ByteArray) : Bool := decide (1 ≤ s.size) && decide (s.size ≤ 24) && (match s[0]? with | some c => letterOk c | none => false) && decide (resv s = 0) && (scan (chBad s) s.size).isNone
theorem resv_pos (s : ByteArray) : 0 ≤ resv s := by unfold resv; split <;> (try split) <;> (try split) <;> decide

end Go.Vi.CYtdfhbmallnegfaa
