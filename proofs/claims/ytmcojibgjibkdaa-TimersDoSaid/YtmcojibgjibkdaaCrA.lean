/-
  Calls of a nil clock; what must come at any rate.
-/
import Derived.Test.YtmcojibgjibkdaaV4
import Derived.Test.YtmcojibgjibkdaaRows
import Derived.KernelRfl
namespace Go.Vi.CYtmcojibgjibkdaa
open Go.Vi Go.Proofs Go.Proofs.Ytmcojibgjibkdaa Go.RowKit
set_option linter.unusedVariables false
set_option maxHeartbeats 4000000
set_option maxRecDepth 100000
set_option linter.unusedSimpArgs false

abbrev iv (n : Int) : VV := .int .i64 n
/-- numbers that a word bears -/
def w64 (n : Int) : Prop := -9223372036854775808 ≤ n ∧ n ≤ 9223372036854775807
/-- a slice that is not too long -/
def Sl.ok {α : Type} (s : Sl α) : Prop := s.list.length ≤ 9223372036854775807
/-- a call of a clock -/
structure Ac where
  kind : Int
  key : Int
  n : Int
abbrev acV (x : Ac) : VV := .agg [iv x.kind, iv x.key, iv x.n]
def Ac.ok (x : Ac) : Prop := w64 x.kind ∧ w64 x.key ∧ w64 x.n

/-- a timer -/
structure Tm where
  due : Int
  key : Int
  deriving DecidableEq
abbrev tmV (x : Tm) : VV := .agg [iv x.due, iv x.key]
def aheadB (a b : Tm) : Bool := decide (a.due < b.due) || (decide (a.due = b.due) && decide (a.key < b.key))
def tmsV : List VV → Option (List Tm)
  | [] => some []
  | .agg [.int .i64 d, .int .i64 k] :: r => (tmsV r).map fun l => ⟨d, k⟩ :: l
  | _ => none
def sortM (l : List Tm) : List Tm := l.mergeSort fun x y => !aheadB y x
/-- slices.SortFunc, by what All compares by: the clock must be an object -/
def sortX (args : List RV) (H : Hp) : Option (List RV × List RV) :=
  match args with
  | [.own es 2, .val (.func f [] [.elt [.agg [.ptr c 0]] 0 0])] =>
    if f = 26 ∧ es.length < 4611686018427387904 then
      match H.objs c, tmsV es with
      | some (.cells [_, .ptr _ 0]), some (x :: r) => some ([], [.own ((sortM (x :: r)).map tmV) 2])
      | _, _ => none
    else none
  | [.val (.lst []), .val _] => some ([], [])
  | _ => none
/-- a clock's time; its timers in order -/
def nowX (args : List RV) (H : Hp) : Option (List RV × List RV) :=
  match args with
  | [.val .nil] => some ([.val (iv 0)], [])
  | [.val (.ptr c 0)] =>
    match H.objs c with
    | some (.cells [.int .i64 n, .ptr _ 0]) => some ([.val (iv n)], [])
    | _ => none
  | _ => none
def allX (args : List RV) (H : Hp) : Option (List RV × List RV) :=
  match args with
  | [.val .nil] => some ([.val .nils], [])
  | [.val (.ptr c 0)] =>
    match H.objs c with
    | some (.cells [_, .ptr o 0]) =>
      match H.objs o with
      | some (.cells [.nils, _]) => some ([.val (.lst [])], [])
      | some (.cells [.row ol 0 n 2, _]) =>
        match H.objs ol with
        | some (.row es 2) =>
          match tmsV es with
          | some l => if n ≤ l.length ∧ n ≤ 1000000 then some ([.val (.lst ((sortM (l.take n)).map tmV))], []) else none
          | none => none
        | _ => none
      | _ => none
    | _ => none
  | _ => none
def ext0 (f : FuncId) : Option (List RV → Hp → Option (List RV × List RV)) := if f = 25 then some sortX else none
def ext21 (f : FuncId) : Option (List RV → Hp → Option (List RV × List RV)) := if f = 11 then some nowX else if f = 18 then some allX else ext0 f
def mode21 (f : FuncId) (i : Nat) : Nat := if f = 25 then (if i = 0 then 2 else 0) else 0
def dyn21 (f : FuncId) : Bool := [3,6,10,24,70,71].contains f
def keys21 (f : FuncId) (d : Nat) : List Nat :=
  if f = 8 then (if d = 2000003 then [0] else if d = 2000005 then [0] else [])
  else if f = 71 then (if d = 3000000 then [0] else [])
  else if f = 15 then (if d = 2000010 then [0] else [])
  else if f = 3 then (if d = 1000010 then [9] else [])
  else if f = 5 then (if d = 1000005 then [13] else if d = 1000007 then [17] else if d = 1000010 then [15] else [])
  else if f = 24 then (if d = 1000008 then [7] else [])
  else if f = 9 then (if d = 1000004 then [2] else [])
  else if f = 30 then (if d = 1000011 then [8] else [])
  else if f = 31 then (if d = 1000007 then [5] else [])
  else []
def pure21 (f : FuncId) : Bool := [16,27,17].contains f
def frz21 (f : FuncId) : Bool := if f = 32 then true else if f = 18 then true else false
/-- Now and All by their own code; by their answers -/
def pol0 : Pol := ⟨pure21, mode21, keys21, dyn21, ext0, frz21⟩
def pol : Pol := ⟨pure21, mode21, keys21, dyn21, ext21, frz21⟩
def okRun : Option (List RV × List RV × Hp) → Bool
  | some ([.val (.bool true)], [], _) => true
  | _ => false
theorem okRun_some {r : Option (List RV × List RV × Hp)} (h : okRun r = true) : ∃ H, r = some ([.val (.bool true)], [], H) := by
  unfold okRun at h
  split at h
  · exact ⟨_, rfl⟩
  · cases h
theorem r_awake : ∃ H, Runs Try.prog pol 9 [] (Hp.bare 0) ([.val (.bool true)], [], H) := by
  obtain ⟨H, h⟩ := okRun_some (r := callV Try.prog pol 60 9 [] (Hp.bare 0)) (by kernel_rfl)
  exact ⟨H, 60, h⟩

theorem n_Go (n : Int) (H : Hp) : Runs Try.prog pol 13 [.val .nil, .val (iv n)] H ([.val .nils, .val (iv 1)], [], H) := by
  refine Runs.told (fn := Try.f13) (n := 68) [(0, .val .nil), (1, .val (iv n))] [(0, .gone 0), (1, .gone 0)] rfl Try.func13 rfl rfl (by kernel_rfl) rfl (by repeat' constructor) (by repeat' constructor) ?_
  repeat' (first
    | intro _
    | refine Ws ?_
    | (refine Wt ?_ ?_ <;> intro _ <;> try (exfalso; omega))
    | (refine Wu ?_ ?_ <;> intro _)
    | refine Wv ?_
    | refine Wz ?_
    | fail)
  rfl
theorem n_Due (n : Int) (H : Hp) : Runs Try.prog pol 14 [.val .nil, .val (iv n)] H ([.val (iv 0), .val (.bool false)], [], H) := by
  refine Runs.told (fn := Try.f14) (n := 35) [(0, .val .nil), (1, .val (iv n))] [(0, .gone 0), (1, .gone 0)] rfl Try.func14 rfl rfl (by kernel_rfl) rfl (by repeat' constructor) (by repeat' constructor) ?_
  repeat' (first
    | intro _
    | refine Ws ?_
    | (refine Wt ?_ ?_ <;> intro _ <;> try (exfalso; omega))
    | (refine Wu ?_ ?_ <;> intro _)
    | refine Wv ?_
    | refine Wz ?_
    | fail)
  rfl
theorem n_First (H : Hp) : Runs Try.prog pol 19 [.val .nil] H ([.val (.agg [iv 0, iv 0]), .val (.bool false)], [], H) := by
  refine Runs.told (fn := Try.f19) (n := 27) [(0, .val .nil)] [(0, .gone 0)] rfl Try.func19 rfl rfl (by kernel_rfl) rfl (by repeat' constructor) (by repeat' constructor) ?_
  repeat' (first
    | intro _
    | refine Ws ?_
    | (refine Wt ?_ ?_ <;> intro _ <;> try (exfalso; omega))
    | (refine Wu ?_ ?_ <;> intro _)
    | refine Wv ?_
    | refine Wz ?_
    | fail)
  rfl
theorem n_Now (H : Hp) : Runs Try.prog pol 11 [.val .nil] H ([.val (iv 0)], [], H) := ⟨1, rfl⟩
theorem n_All (H : Hp) : Runs Try.prog pol 18 [.val .nil] H ([.val .nils], [], H) := ⟨1, rfl⟩
theorem n_Set (k n : Int) (H : Hp) : Runs Try.prog pol 10 [.val .nil, .val (iv k), .val (iv n)] H ([.val (iv 1)], [], H) := by
  refine Runs.told (fn := Try.f10) (n := 75) [(0, .val .nil), (1, .val (iv k)), (2, .val (iv n))] [(0, .gone 0), (1, .gone 0), (2, .gone 0)] rfl Try.func10 rfl rfl (by kernel_rfl) rfl (by repeat' constructor) (by repeat' constructor) ?_
  repeat' (first
    | intro _
    | refine Ws ?_
    | (refine Wt ?_ ?_ <;> intro _ <;> try (exfalso; omega))
    | (refine Wu ?_ ?_ <;> intro _)
    | refine Wv ?_
    | refine Wz ?_
    | fail)
  rfl
theorem n_Stop (k : Int) (H : Hp) : Runs Try.prog pol 12 [.val .nil, .val (iv k)] H ([.val (iv 1)], [], H) := by
  refine Runs.told (fn := Try.f12) (n := 30) [(0, .val .nil), (1, .val (iv k))] [(0, .gone 0), (1, .gone 0)] rfl Try.func12 rfl rfl (by kernel_rfl) rfl (by repeat' constructor) (by repeat' constructor) ?_
  repeat' (first
    | intro _
    | refine Ws ?_
    | (refine Wt ?_ ?_ <;> intro _ <;> try (exfalso; omega))
    | (refine Wu ?_ ?_ <;> intro _)
    | refine Wv ?_
    | refine Wz ?_
    | fail)
  rfl
theorem r_TimersNone (a : Ac) (ha : a.ok) : ∃ H, Runs Try.prog pol 7 [.val (acV a)] (Hp.bare 0) ([.val (.bool true)], [], H) := by
  obtain ⟨H, hw⟩ := r_awake
  refine ⟨H, ?_⟩
  refine Runs.toldH (fn := Try.f7) (n := 77) [(0, .val (acV a))] [(0, .gone 0)] rfl Try.func7 rfl rfl (by kernel_rfl) rfl (by repeat' constructor) (by repeat' constructor) ?_
  repeat' (first
    | intro _
    | refine Ws ?_
    | (refine Wt ?_ ?_ <;> intro _ <;> try (exfalso; omega))
    | (refine Wu ?_ ?_ <;> intro _)
    | refine Wo.callI (n_Go _ _) ?_
    | refine Wo.callI (n_Due _ _) ?_
    | refine Wo.callI (n_First _) ?_
    | refine Wo.callI (n_Now _) ?_
    | refine Wo.callI (n_All _) ?_
    | refine Wo.callI (n_Set _ _ _) ?_
    | refine Wo.callI (n_Stop _ _) ?_
    | refine Wo.callI hw ?_
    | refine Wv ?_
    | refine Wz ?_
    | fail)
  all_goals first
    | rfl
    | (exfalso; rename_i h; exact absurd h (by decide))
end Go.Vi.CYtmcojibgjibkdaa
