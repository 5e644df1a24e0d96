/-
  The comparison that All sorts by, at the machine.
-/
import Derived.Test.YtmcojibgjibkdaaCrC
import Derived.Test.YtmcojibgjibkdaaCrTl
import Derived.Shelf.SlSortCmp.QuietGrown
import Derived.WalkKit
namespace Go.Vi.CYtmcojibgjibkdaa
open Go.Vi Go.Proofs Go.Proofs.Ytmcojibgjibkdaa Go.Shelf Go.RowKit Go.Sort
set_option linter.unusedVariables false
set_option linter.unusedSimpArgs false
set_option maxHeartbeats 4000000
set_option maxRecDepth 100000

theorem ahead_base (r : Value) (x y : Tm) (W : World) : Calls Try.prog 27 #[r, .agg #[.int .i64 x.due, .int .i64 x.key], .agg #[.int .i64 y.due, .int .i64 y.key]] W fun e w' => e = .returned (.bool (aheadB x y)) ∧ ∃ q os', w' = grow (W.drewN q) os' := by
  unfold aheadB
  by_cases h1 : x.due < y.due
  · go_enter Try.func27, Try.ntmps27
    go_wp2
    all_goals (go_ret; exact ⟨by simp [h1], 0, _, by rw [alloc_eq_grow, alloc_eq_grow, grow_grow]; rfl⟩)
  · by_cases h2 : x.due = y.due
    · go_enter Try.func27, Try.ntmps27
      go_wp2
      all_goals (go_ret; exact ⟨by simp [h1, h2], 0, _, by rw [alloc_eq_grow, alloc_eq_grow, grow_grow]; rfl⟩)
    · go_enter Try.func27, Try.ntmps27
      go_wp2
      all_goals (go_ret; exact ⟨by simp [h1, h2], 0, _, by rw [alloc_eq_grow, alloc_eq_grow, grow_grow]; rfl⟩)
def cfT (x y : Tm) : Int := if aheadB x y then -1 else 1
theorem cmp_base (x y : Tm) (W : World) (bb oo cb co : Nat) (rp : Value) (hb : bb < W.heap.size) (hc : cb < W.heap.size) (h1 : W.cell? ⟨bb, oo, none⟩ = some (.pointer (some ⟨cb, co, none⟩))) (h2 : W.cell? ⟨cb, co + 1, none⟩ = some rp) :
    Calls Try.prog 26 #[.agg #[.int .i64 x.due, .int .i64 x.key], .agg #[.int .i64 y.due, .int .i64 y.key], .pointer (some ⟨bb, oo, none⟩)] W fun e w' => e = .returned (.int .i64 (cfT x y)) ∧ ∃ q os', w' = grow (W.drewN q) os' := by
  unfold cfT
  have hA := fun W' => ahead_base rp x y W'
  generalize aheadB x y = b at hA ⊢
  go_enter Try.func26, Try.ntmps26
  go_wp2_with fail
  obtain ⟨os0, hos⟩ : ∃ os0 : Array Go.Obj, os0 = #[Go.Obj.cells #[Value.int IntKind.i64 x.due, Value.int IntKind.i64 x.key] 50, Go.Obj.cells #[Value.int IntKind.i64 y.due, Value.int IntKind.i64 y.key] 50] := ⟨_, rfl⟩
  obtain ⟨WQ, hWQ⟩ : ∃ WQ, WQ = grow W os0 := ⟨_, rfl⟩
  have hW0 : (W.alloc (Go.Obj.cells #[Value.int IntKind.i64 x.due, Value.int IntKind.i64 x.key] 50)).alloc (Go.Obj.cells #[Value.int IntKind.i64 y.due, Value.int IntKind.i64 y.key] 50) = WQ := by
    rw [alloc_eq_grow, alloc_eq_grow, grow_grow, hWQ, hos]; rfl
  rw [hW0]
  have hsz : WQ.heap.size = W.heap.size + 2 := by rw [hWQ, size_grow, hos]; rfl
  have n1 : WQ.cell? ⟨W.heap.size, 0, none⟩ = some (.int .i64 x.due) := by rw [hWQ, hos]; simp [World.cell?, grow]
  have n2 : WQ.cell? ⟨W.heap.size, 0 + 1, none⟩ = some (.int .i64 x.key) := by rw [hWQ, hos]; simp [World.cell?, grow]
  have n3 : WQ.cell? ⟨W.heap.size + 1, 0, none⟩ = some (.int .i64 y.due) := by rw [hWQ, hos]; simp [World.cell?, grow]
  have n4 : WQ.cell? ⟨W.heap.size + 1, 0 + 1, none⟩ = some (.int .i64 y.key) := by rw [hWQ, hos]; simp [World.cell?, grow]
  have n5 : WQ.cell? ⟨bb, oo, none⟩ = some (.pointer (some ⟨cb, co, none⟩)) := by rw [hWQ, cell?_grow _ _ _ hb]; exact h1
  have n6 : WQ.cell? ⟨cb, co + 1, none⟩ = some rp := by rw [hWQ, cell?_grow _ _ _ hc]; exact h2
  have g1 := fun n os => cell_grown (w := WQ) (by rw [hsz]; show W.heap.size < _; omega) n1 n os
  have g2 := fun n os => cell_grown (w := WQ) (by rw [hsz]; show W.heap.size < _; omega) n2 n os
  have g3 := fun n os => cell_grown (w := WQ) (by rw [hsz]; show W.heap.size + 1 < _; omega) n3 n os
  have g4 := fun n os => cell_grown (w := WQ) (by rw [hsz]; show W.heap.size + 1 < _; omega) n4 n os
  have g5 := fun n os => cell_grown (w := WQ) (by rw [hsz]; show bb < _; omega) n5 n os
  have g6 := fun n os => cell_grown (w := WQ) (by rw [hsz]; show cb < _; omega) n6 n os
  have fin : ∀ nq osq, ∃ q os', grow (WQ.drewN nq) osq = grow (W.drewN q) os' := fun nq osq => ⟨nq, os0 ++ osq, by
    rw [hWQ]
    show grow (grow (W.drewN nq) os0) osq = _
    rw [grow_grow]⟩
  clear n1 n2 n3 n4 n5 n6 h1 h2 hb hc hWQ hW0 hsz hos
  generalize W.heap.size = bx at g1 g2 g3 g4 ⊢
  have mixed : Try.prog.follows .mixedOrders = true := by kernel_rfl
  go_quiet_grown (first | exact Calls.grown_of (hA _) | (go_at_call 27; refine Calls.grown_of (hA _)))
  go_wp2
  all_goals (go_ret; exact ⟨by simp, fin _ _⟩)
end Go.Vi.CYtmcojibgjibkdaa
