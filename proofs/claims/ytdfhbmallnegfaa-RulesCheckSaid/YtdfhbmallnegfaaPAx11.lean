-- Written by a program (wip/tools/gprint.py: a patched copy of the kit's print) and by hand, for this claim
import Derived.Test.YtdfhbmallnegfaaPAx0
import Derived.Test.YtdfhbmallnegfaaPAx10
namespace Go.Proofs.Ytdfhbmallnegfaa.PA
open Go.RowKit Go.Proofs.YtdfhbmallnegfaaW.PrintWords Go.Proofs.YtdfhbmallnegfaaW.PrintLast Go.Proofs.YtdfhbmallnegfaaW.PrintMore
attribute [local go_sem] max2_int min2_int max_two min_two max_three min_three max_four min_four   -- for this text's walks alone
set_option linter.unusedVariables false
set_option linter.unusedSimpArgs false

/-! ### surmiseref03_Takes: function 66 -/
def surmiseref03_Takes.f (a0 : Int) : Option (Int) := (some (([(-1), 0, 0, 0, 1, 1, 2, 2, 2, 2, 2, 2, 2, 2, 2, 2, 3] : List Int) : List Int)).bind fun y439 => (if a0 < 1 then (some (-1)) else (if a0 > 16 then (some (-1)) else (if 0 ≤ a0 then (if a0 < (y439.length : Int) then (some (rd y439 a0)) else (none)) else (none))))
set_option maxHeartbeats 8000000 in
set_option maxRecDepth 100000 in
theorem surmiseref03_Takes.calls (a0 : Int) (r : Int) (w : World) (h : surmiseref03_Takes.f a0 = some r) :
  Calls Try.prog 66 #[.int .i64 a0] w fun e w' => e = .returned (.int .i64 r) ∧ Below w.heap.size w w' := by
 have HB := Am (Below.refl w.heap.size w)
 have H : ((some (([(-1), 0, 0, 0, 1, 1, 2, 2, 2, 2, 2, 2, 2, 2, 2, 2, 3] : List Int) : List Int)).bind fun y439 => (if a0 < 1 then (some (-1)) else (if a0 > 16 then (some (-1)) else (if 0 ≤ a0 then (if a0 < (y439.length : Int) then (some (rd y439 a0)) else (none)) else (none))))) = some r := h
 clear h
 obtain ⟨y439, hy439⟩ : ∃ y_ : List Int, y_ = (([(-1), 0, 0, 0, 1, 1, 2, 2, 2, 2, 2, 2, 2, 2, 2, 2, 3] : List Int)) := ⟨_, rfl⟩
 replace H : (if a0 < 1 then (some (-1)) else (if a0 > 16 then (some (-1)) else (if 0 ≤ a0 then (if a0 < (y439.length : Int) then (some (rd y439 a0)) else (none)) else (none)))) = some r := by first | (rw [hy439]; with_reducible exact H) | (have H2_ := (Option.bind_some _ _).symm.trans H; rw [hy439]; with_reducible exact H2_) | (have H2_ := (Option.bind_some _ _).symm.trans H; with_reducible exact H2_) | with_reducible exact H | (rw [hy439]; exact H) | exact H
 have Ny439 := Am hy439
 clear hy439
 by_cases c2 : a0 < 1
 ·
  rw [if_pos c2] at H
  have c2b0 : decide (a0 < 1) = true := decide_eq_true c2
  clear c2
  obtain rfl := Option.some.inj H
  go_enter Try.func66, Try.ntmps66
  go_wp2_with (first | ((with_reducible refine gate_dst (N := 4) rfl ?_); refine Kd.R_lit (Kd.int .i64) _ 3 ?hg (N := 4) ?hd (xs := ([(-1), 0, 0, 0, 1, 1, 2, 2, 2, 2, 2, 2, 2, 2, 2, 2, 3] : List Int)) (inner := [.int .i64 (-1), .int .i64 0, .int .i64 0, .int .i64 0, .int .i64 1, .int .i64 1, .int .i64 2, .int .i64 2, .int .i64 2, .int .i64 2, .int .i64 2, .int .i64 2, .int .i64 2, .int .i64 2, .int .i64 2, .int .i64 2, .int .i64 3]) (ok := fun _ => True) (okp := fun _ => True) ?hr ?hp (fun _ hk => hk) trivial (Below.refl _ _) (Nat.le_refl _) (by simp) ?_; (case hd => rfl); (case hg => rfl); (case hr => first | (go_simp; done) | (go_simp; rfl)); (case hp => exact (Reps.one (show Kd.M (Kd.int .i64) _ _ _ (-1) [.int .i64 (-1)] from rfl) (Reps.one (show Kd.M (Kd.int .i64) _ _ _ 0 [.int .i64 0] from rfl) (Reps.one (show Kd.M (Kd.int .i64) _ _ _ 0 [.int .i64 0] from rfl) (Reps.one (show Kd.M (Kd.int .i64) _ _ _ 0 [.int .i64 0] from rfl) (Reps.one (show Kd.M (Kd.int .i64) _ _ _ 1 [.int .i64 1] from rfl) (Reps.one (show Kd.M (Kd.int .i64) _ _ _ 1 [.int .i64 1] from rfl) (Reps.one (show Kd.M (Kd.int .i64) _ _ _ 2 [.int .i64 2] from rfl) (Reps.one (show Kd.M (Kd.int .i64) _ _ _ 2 [.int .i64 2] from rfl) (Reps.one (show Kd.M (Kd.int .i64) _ _ _ 2 [.int .i64 2] from rfl) (Reps.one (show Kd.M (Kd.int .i64) _ _ _ 2 [.int .i64 2] from rfl) (Reps.one (show Kd.M (Kd.int .i64) _ _ _ 2 [.int .i64 2] from rfl) (Reps.one (show Kd.M (Kd.int .i64) _ _ _ 2 [.int .i64 2] from rfl) (Reps.one (show Kd.M (Kd.int .i64) _ _ _ 2 [.int .i64 2] from rfl) (Reps.one (show Kd.M (Kd.int .i64) _ _ _ 2 [.int .i64 2] from rfl) (Reps.one (show Kd.M (Kd.int .i64) _ _ _ 2 [.int .i64 2] from rfl) (Reps.one (show Kd.M (Kd.int .i64) _ _ _ 2 [.int .i64 2] from rfl) (Reps.one (show Kd.M (Kd.int .i64) _ _ _ 3 [.int .i64 3] from rfl) (Reps.none _ _))))))))))))))))))); intro v440 w3 ho4 hb hg_ hnew_; clear hg_ hnew_; (first | rw [← Ny439.out] at ho4 | (simp only [Int.reduceToNat] at ho4; rw [← Ny439.out] at ho4)); have n0_ := Am (Kd.R_lower ho4 (below_size (bl))); have n1_ := Am (below_step (bl) hb); clear HB; have HO441 := n0_; have HB := n1_; clear n0_ n1_; clear hb ho4))
  go_ret
  exact ⟨xq, bl⟩
 ·
  rw [if_neg c2] at H
  have c2b0 : decide (a0 < 1) = false := decide_eq_false c2
  clear c2
  by_cases c5 : a0 > 16
  ·
   rw [if_pos c5] at H
   have c5b0 : decide (16 < a0) = true := decide_eq_true c5
   clear c5
   obtain rfl := Option.some.inj H
   go_enter Try.func66, Try.ntmps66
   go_wp2_with (first | ((with_reducible refine gate_dst (N := 4) rfl ?_); refine Kd.R_lit (Kd.int .i64) _ 3 ?hg (N := 4) ?hd (xs := ([(-1), 0, 0, 0, 1, 1, 2, 2, 2, 2, 2, 2, 2, 2, 2, 2, 3] : List Int)) (inner := [.int .i64 (-1), .int .i64 0, .int .i64 0, .int .i64 0, .int .i64 1, .int .i64 1, .int .i64 2, .int .i64 2, .int .i64 2, .int .i64 2, .int .i64 2, .int .i64 2, .int .i64 2, .int .i64 2, .int .i64 2, .int .i64 2, .int .i64 3]) (ok := fun _ => True) (okp := fun _ => True) ?hr ?hp (fun _ hk => hk) trivial (Below.refl _ _) (Nat.le_refl _) (by simp) ?_; (case hd => rfl); (case hg => rfl); (case hr => first | (go_simp; done) | (go_simp; rfl)); (case hp => exact (Reps.one (show Kd.M (Kd.int .i64) _ _ _ (-1) [.int .i64 (-1)] from rfl) (Reps.one (show Kd.M (Kd.int .i64) _ _ _ 0 [.int .i64 0] from rfl) (Reps.one (show Kd.M (Kd.int .i64) _ _ _ 0 [.int .i64 0] from rfl) (Reps.one (show Kd.M (Kd.int .i64) _ _ _ 0 [.int .i64 0] from rfl) (Reps.one (show Kd.M (Kd.int .i64) _ _ _ 1 [.int .i64 1] from rfl) (Reps.one (show Kd.M (Kd.int .i64) _ _ _ 1 [.int .i64 1] from rfl) (Reps.one (show Kd.M (Kd.int .i64) _ _ _ 2 [.int .i64 2] from rfl) (Reps.one (show Kd.M (Kd.int .i64) _ _ _ 2 [.int .i64 2] from rfl) (Reps.one (show Kd.M (Kd.int .i64) _ _ _ 2 [.int .i64 2] from rfl) (Reps.one (show Kd.M (Kd.int .i64) _ _ _ 2 [.int .i64 2] from rfl) (Reps.one (show Kd.M (Kd.int .i64) _ _ _ 2 [.int .i64 2] from rfl) (Reps.one (show Kd.M (Kd.int .i64) _ _ _ 2 [.int .i64 2] from rfl) (Reps.one (show Kd.M (Kd.int .i64) _ _ _ 2 [.int .i64 2] from rfl) (Reps.one (show Kd.M (Kd.int .i64) _ _ _ 2 [.int .i64 2] from rfl) (Reps.one (show Kd.M (Kd.int .i64) _ _ _ 2 [.int .i64 2] from rfl) (Reps.one (show Kd.M (Kd.int .i64) _ _ _ 2 [.int .i64 2] from rfl) (Reps.one (show Kd.M (Kd.int .i64) _ _ _ 3 [.int .i64 3] from rfl) (Reps.none _ _))))))))))))))))))); intro v440 w6 ho7 hb hg_ hnew_; clear hg_ hnew_; (first | rw [← Ny439.out] at ho7 | (simp only [Int.reduceToNat] at ho7; rw [← Ny439.out] at ho7)); have n0_ := Am (Kd.R_lower ho7 (below_size (bl))); have n1_ := Am (below_step (bl) hb); clear HB; have HO441 := n0_; have HB := n1_; clear n0_ n1_; clear hb ho7))
   go_ret
   exact ⟨xq, bl⟩
  ·
   rw [if_neg c5] at H
   have c5b0 : decide (16 < a0) = false := decide_eq_false c5
   clear c5
   by_cases c8 : 0 ≤ a0
   ·
    rw [if_pos c8] at H
    have c8b0 : decide (0 ≤ a0) = true := decide_eq_true c8
    clear c8
    by_cases c9 : a0 < (y439.length : Int)
    ·
     rw [if_pos c9] at H
     have c9b0 : decide (a0 < (y439.length : Int)) = true := decide_eq_true c9
     clear c9
     obtain rfl := Option.some.inj H
     go_enter Try.func66, Try.ntmps66
     go_wp2_with (first | ((with_reducible refine gate_dst (N := 4) rfl ?_); refine Kd.R_lit (Kd.int .i64) _ 3 ?hg (N := 4) ?hd (xs := ([(-1), 0, 0, 0, 1, 1, 2, 2, 2, 2, 2, 2, 2, 2, 2, 2, 3] : List Int)) (inner := [.int .i64 (-1), .int .i64 0, .int .i64 0, .int .i64 0, .int .i64 1, .int .i64 1, .int .i64 2, .int .i64 2, .int .i64 2, .int .i64 2, .int .i64 2, .int .i64 2, .int .i64 2, .int .i64 2, .int .i64 2, .int .i64 2, .int .i64 3]) (ok := fun _ => True) (okp := fun _ => True) ?hr ?hp (fun _ hk => hk) trivial (Below.refl _ _) (Nat.le_refl _) (by simp) ?_; (case hd => rfl); (case hg => rfl); (case hr => first | (go_simp; done) | (go_simp; rfl)); (case hp => exact (Reps.one (show Kd.M (Kd.int .i64) _ _ _ (-1) [.int .i64 (-1)] from rfl) (Reps.one (show Kd.M (Kd.int .i64) _ _ _ 0 [.int .i64 0] from rfl) (Reps.one (show Kd.M (Kd.int .i64) _ _ _ 0 [.int .i64 0] from rfl) (Reps.one (show Kd.M (Kd.int .i64) _ _ _ 0 [.int .i64 0] from rfl) (Reps.one (show Kd.M (Kd.int .i64) _ _ _ 1 [.int .i64 1] from rfl) (Reps.one (show Kd.M (Kd.int .i64) _ _ _ 1 [.int .i64 1] from rfl) (Reps.one (show Kd.M (Kd.int .i64) _ _ _ 2 [.int .i64 2] from rfl) (Reps.one (show Kd.M (Kd.int .i64) _ _ _ 2 [.int .i64 2] from rfl) (Reps.one (show Kd.M (Kd.int .i64) _ _ _ 2 [.int .i64 2] from rfl) (Reps.one (show Kd.M (Kd.int .i64) _ _ _ 2 [.int .i64 2] from rfl) (Reps.one (show Kd.M (Kd.int .i64) _ _ _ 2 [.int .i64 2] from rfl) (Reps.one (show Kd.M (Kd.int .i64) _ _ _ 2 [.int .i64 2] from rfl) (Reps.one (show Kd.M (Kd.int .i64) _ _ _ 2 [.int .i64 2] from rfl) (Reps.one (show Kd.M (Kd.int .i64) _ _ _ 2 [.int .i64 2] from rfl) (Reps.one (show Kd.M (Kd.int .i64) _ _ _ 2 [.int .i64 2] from rfl) (Reps.one (show Kd.M (Kd.int .i64) _ _ _ 2 [.int .i64 2] from rfl) (Reps.one (show Kd.M (Kd.int .i64) _ _ _ 3 [.int .i64 3] from rfl) (Reps.none _ _))))))))))))))))))); intro v440 w10 ho11 hb hg_ hnew_; clear hg_ hnew_; (first | rw [← Ny439.out] at ho11 | (simp only [Int.reduceToNat] at ho11; rw [← Ny439.out] at ho11)); have n0_ := Am (Kd.R_lower ho11 (below_size (bl))); have n1_ := Am (below_step (bl) hb); clear HB; have HO441 := n0_; have HB := n1_; clear n0_ n1_; clear hb ho11; obtain ⟨Ao12, co12, eo12⟩ := Kd.R_slice HO441.out; subst eo12; have p442 : 0 ≤ (a0 : Int) := of_decide_eq_true az; have q442 : a0 < (y439.length : Int) := of_decide_eq_true az; obtain ⟨ad442, e442, hx442_0⟩ := Kd.at_int (Kd.R_reads' HO441.out).2.2 a0 p442 q442; cases e442; replace p442 := eq_true p442; replace q442 := eq_true q442))
     go_ret
     exact ⟨xq, bl⟩
    ·
     rw [if_neg c9] at H
     exact absurd H (by simp)
   ·
    rw [if_neg c8] at H
    exact absurd H (by simp)

/-! ### surmiseref03_Check: function 64 -/
mutual
def surmiseref03_Check.j0 : Nat → List (S71) → Int → Int → Bool → Option (Int × Int)
 | 0, _, _, _, _ => none
 | k + 1, x0, x1, x2, x17 => if x17 = true then (some (0, 2)) else (if (x0.length : Int) > 31 then (some (0, 4)) else (surmiseref03_Check.l0 k x0 x1 x2 0 0))
def surmiseref03_Check.l0 : Nat → List (S71) → Int → Int → Int → Int → Option (Int × Int)
 | 0, _, _, _, _, _ => none
 | k + 1, x0, x1, x2, x8, x9 => if x9 < (x0.length : Int) then (if 0 ≤ x9 then ((surmiseref03_Takes.f ((rd_T71 x0 x9).f0)).bind fun t445 => (if t445 < 0 then (some (x9, 2)) else (if ((rd_T71 x0 x9).f0) = 1 then ((surmiseref03_Value.f ((rd_T71 x0 x9).f1)).bind fun t446 => (surmiseref03_Check.j2 k x0 x1 x2 x8 x9 t446 ((rd_T71 x0 x9).f0) ((rd_T71 x0 x9).f1))) else (surmiseref03_Check.j2 k x0 x1 x2 x8 x9 (((rd_T71 x0 x9).f1) == 0) ((rd_T71 x0 x9).f0) ((rd_T71 x0 x9).f1))))) else (none)) else (if x8 = 1 then (some (0, 0)) else (some ((x0.length : Int), 6)))
def surmiseref03_Check.j2 : Nat → List (S71) → Int → Int → Int → Int → Bool → Int → Int → Option (Int × Int)
 | 0, _, _, _, _, _, _, _, _ => none
 | k + 1, x0, x1, x2, x8, x9, x11, x445000, x445001 => if x445000 = 2 then (if x445001 ≥ 0 then (surmiseref03_Check.j3 k x0 x1 x2 x8 x9 (decide (x445001 < x1)) x445000 x445001) else (surmiseref03_Check.j3 k x0 x1 x2 x8 x9 false x445000 x445001)) else (surmiseref03_Check.j3 k x0 x1 x2 x8 x9 x11 x445000 x445001)
def surmiseref03_Check.j3 : Nat → List (S71) → Int → Int → Int → Int → Bool → Int → Int → Option (Int × Int)
 | 0, _, _, _, _, _, _, _, _ => none
 | k + 1, x0, x1, x2, x8, x9, x11, x445000, x445001 => if x445000 = 3 then (if x445001 ≥ 0 then (surmiseref03_Check.j4 k x0 x1 x2 x8 x9 (decide (x445001 < x2)) x445000 x445001) else (surmiseref03_Check.j4 k x0 x1 x2 x8 x9 false x445000 x445001)) else (surmiseref03_Check.j4 k x0 x1 x2 x8 x9 x11 x445000 x445001)
def surmiseref03_Check.j4 : Nat → List (S71) → Int → Int → Int → Int → Bool → Int → Int → Option (Int × Int)
 | 0, _, _, _, _, _, _, _, _ => none
 | k + 1, x0, x1, x2, x8, x9, x11, x445000, x445001 => if x11 = true then ((surmiseref03_Takes.f x445000).bind fun t447 => (if t447 > x8 then (some (x9, 5)) else ((surmiseref03_Takes.f x445000).bind fun t448 => (surmiseref03_Check.l0 k x0 x1 x2 (wrap64 ((wrap64 (x8 - t448)) + 1)) (wrap64 (x9 + 1)))))) else (some (x9, 3))
end
def surmiseref03_Check.f (k : Nat) (l0 : List (S71)) (a1 : Int) (a2 : Int) : Option (Int × Int) := if a1 < 0 then (surmiseref03_Check.j0 k l0 a1 a2 true) else (surmiseref03_Check.j0 k l0 a1 a2 (decide (a2 < 0)))
theorem surmiseref03_Check.mono_l : ∀ k, (∀ y0 y1 y2 y3, LeO (surmiseref03_Check.j0 k y0 y1 y2 y3) (surmiseref03_Check.j0 (k + 1) y0 y1 y2 y3)) ∧ (∀ y0 y1 y2 y3 y4, LeO (surmiseref03_Check.l0 k y0 y1 y2 y3 y4) (surmiseref03_Check.l0 (k + 1) y0 y1 y2 y3 y4)) ∧ (∀ y0 y1 y2 y3 y4 y5 y6 y7, LeO (surmiseref03_Check.j2 k y0 y1 y2 y3 y4 y5 y6 y7) (surmiseref03_Check.j2 (k + 1) y0 y1 y2 y3 y4 y5 y6 y7)) ∧ (∀ y0 y1 y2 y3 y4 y5 y6 y7, LeO (surmiseref03_Check.j3 k y0 y1 y2 y3 y4 y5 y6 y7) (surmiseref03_Check.j3 (k + 1) y0 y1 y2 y3 y4 y5 y6 y7)) ∧ (∀ y0 y1 y2 y3 y4 y5 y6 y7, LeO (surmiseref03_Check.j4 k y0 y1 y2 y3 y4 y5 y6 y7) (surmiseref03_Check.j4 (k + 1) y0 y1 y2 y3 y4 y5 y6 y7))
 | 0 => ⟨fun _ _ _ _ r h => by simp [surmiseref03_Check.j0] at h, fun _ _ _ _ _ r h => by simp [surmiseref03_Check.l0] at h, fun _ _ _ _ _ _ _ _ r h => by simp [surmiseref03_Check.j2] at h, fun _ _ _ _ _ _ _ _ r h => by simp [surmiseref03_Check.j3] at h, fun _ _ _ _ _ _ _ _ r h => by simp [surmiseref03_Check.j4] at h⟩
 | k + 1 => by
  obtain ⟨ih0, ih1, ih2, ih3, ih4⟩ := surmiseref03_Check.mono_l k
  refine ⟨?_, ?_, ?_, ?_, ?_⟩
  ·
   intro y0 y1 y2 y3
   unfold surmiseref03_Check.j0
   repeat' first
   | (with_reducible exact ih0 _ _ _ _)
   | (with_reducible exact ih1 _ _ _ _ _)
   | (with_reducible exact ih2 _ _ _ _ _ _ _ _)
   | (with_reducible exact ih3 _ _ _ _ _ _ _ _)
   | (with_reducible exact ih4 _ _ _ _ _ _ _ _)
   | (with_reducible exact LeO.refl _)
   | (with_reducible exact LeO.none _)
   | (with_reducible refine LeO.ite ?_ ?_)
   | (with_reducible refine LeO.bind ?_ (fun _ => ?_))
   | exact ih0 _ _ _ _
   | exact ih1 _ _ _ _ _
   | exact ih2 _ _ _ _ _ _ _ _
   | exact ih3 _ _ _ _ _ _ _ _
   | exact ih4 _ _ _ _ _ _ _ _
   | exact LeO.none _
   | refine LeO.ite ?_ ?_
   | refine LeO.bind ?_ (fun _ => ?_)
  ·
   intro y0 y1 y2 y3 y4
   unfold surmiseref03_Check.l0
   repeat' first
   | (with_reducible exact ih0 _ _ _ _)
   | (with_reducible exact ih1 _ _ _ _ _)
   | (with_reducible exact ih2 _ _ _ _ _ _ _ _)
   | (with_reducible exact ih3 _ _ _ _ _ _ _ _)
   | (with_reducible exact ih4 _ _ _ _ _ _ _ _)
   | (with_reducible exact LeO.refl _)
   | (with_reducible exact LeO.none _)
   | (with_reducible refine LeO.ite ?_ ?_)
   | (with_reducible refine LeO.bind ?_ (fun _ => ?_))
   | exact ih0 _ _ _ _
   | exact ih1 _ _ _ _ _
   | exact ih2 _ _ _ _ _ _ _ _
   | exact ih3 _ _ _ _ _ _ _ _
   | exact ih4 _ _ _ _ _ _ _ _
   | exact LeO.none _
   | refine LeO.ite ?_ ?_
   | refine LeO.bind ?_ (fun _ => ?_)
  ·
   intro y0 y1 y2 y3 y4 y5 y6 y7
   unfold surmiseref03_Check.j2
   repeat' first
   | (with_reducible exact ih0 _ _ _ _)
   | (with_reducible exact ih1 _ _ _ _ _)
   | (with_reducible exact ih2 _ _ _ _ _ _ _ _)
   | (with_reducible exact ih3 _ _ _ _ _ _ _ _)
   | (with_reducible exact ih4 _ _ _ _ _ _ _ _)
   | (with_reducible exact LeO.refl _)
   | (with_reducible exact LeO.none _)
   | (with_reducible refine LeO.ite ?_ ?_)
   | (with_reducible refine LeO.bind ?_ (fun _ => ?_))
   | exact ih0 _ _ _ _
   | exact ih1 _ _ _ _ _
   | exact ih2 _ _ _ _ _ _ _ _
   | exact ih3 _ _ _ _ _ _ _ _
   | exact ih4 _ _ _ _ _ _ _ _
   | exact LeO.none _
   | refine LeO.ite ?_ ?_
   | refine LeO.bind ?_ (fun _ => ?_)
  ·
   intro y0 y1 y2 y3 y4 y5 y6 y7
   unfold surmiseref03_Check.j3
   repeat' first
   | (with_reducible exact ih0 _ _ _ _)
   | (with_reducible exact ih1 _ _ _ _ _)
   | (with_reducible exact ih2 _ _ _ _ _ _ _ _)
   | (with_reducible exact ih3 _ _ _ _ _ _ _ _)
   | (with_reducible exact ih4 _ _ _ _ _ _ _ _)
   | (with_reducible exact LeO.refl _)
   | (with_reducible exact LeO.none _)
   | (with_reducible refine LeO.ite ?_ ?_)
   | (with_reducible refine LeO.bind ?_ (fun _ => ?_))
   | exact ih0 _ _ _ _
   | exact ih1 _ _ _ _ _
   | exact ih2 _ _ _ _ _ _ _ _
   | exact ih3 _ _ _ _ _ _ _ _
   | exact ih4 _ _ _ _ _ _ _ _
   | exact LeO.none _
   | refine LeO.ite ?_ ?_
   | refine LeO.bind ?_ (fun _ => ?_)
  ·
   intro y0 y1 y2 y3 y4 y5 y6 y7
   unfold surmiseref03_Check.j4
   repeat' first
   | (with_reducible exact ih0 _ _ _ _)
   | (with_reducible exact ih1 _ _ _ _ _)
   | (with_reducible exact ih2 _ _ _ _ _ _ _ _)
   | (with_reducible exact ih3 _ _ _ _ _ _ _ _)
   | (with_reducible exact ih4 _ _ _ _ _ _ _ _)
   | (with_reducible exact LeO.refl _)
   | (with_reducible exact LeO.none _)
   | (with_reducible refine LeO.ite ?_ ?_)
   | (with_reducible refine LeO.bind ?_ (fun _ => ?_))
   | exact ih0 _ _ _ _
   | exact ih1 _ _ _ _ _
   | exact ih2 _ _ _ _ _ _ _ _
   | exact ih3 _ _ _ _ _ _ _ _
   | exact ih4 _ _ _ _ _ _ _ _
   | exact LeO.none _
   | refine LeO.ite ?_ ?_
   | refine LeO.bind ?_ (fun _ => ?_)
theorem surmiseref03_Check.mono : ∀ a0 a1 a2 k, LeO (surmiseref03_Check.f k a0 a1 a2) (surmiseref03_Check.f (k + 1) a0 a1 a2) := by
 intro a0 a1 a2 k
 obtain ⟨ih0, ih1, ih2, ih3, ih4⟩ := surmiseref03_Check.mono_l k
 unfold surmiseref03_Check.f
 repeat' first
   | (with_reducible exact ih0 _ _ _ _)
   | (with_reducible exact ih1 _ _ _ _ _)
   | (with_reducible exact ih2 _ _ _ _ _ _ _ _)
   | (with_reducible exact ih3 _ _ _ _ _ _ _ _)
   | (with_reducible exact ih4 _ _ _ _ _ _ _ _)
   | (with_reducible exact LeO.refl _)
   | (with_reducible exact LeO.none _)
   | (with_reducible refine LeO.ite ?_ ?_)
   | (with_reducible refine LeO.bind ?_ (fun _ => ?_))
   | exact ih0 _ _ _ _
   | exact ih1 _ _ _ _ _
   | exact ih2 _ _ _ _ _ _ _ _
   | exact ih3 _ _ _ _ _ _ _ _
   | exact ih4 _ _ _ _ _ _ _ _
   | exact LeO.none _
   | refine LeO.ite ?_ ?_
   | refine LeO.bind ?_ (fun _ => ?_)
set_option maxHeartbeats 8000000 in
set_option maxRecDepth 100000 in
theorem surmiseref03_Check.calls (k : Nat) (A0 : Option Addr) (c0 : Nat) (l0 : List (S71)) (a1 : Int) (a2 : Int) (r1 : Int) (r2 : Int) (w : World) (hr0 : Kd.C k71 w A0 l0.length l0) (hc0 : l0.length ≤ c0) (h : surmiseref03_Check.f k l0 a1 a2 = some (r1, r2)) :
  Calls Try.prog 64 #[.slice A0 l0.length c0, .int .i64 a1, .int .i64 a2] w fun e w' => e = .returned (.tuple #[.int .i64 r1, .int .i64 r2]) ∧ Below w.heap.size w w' := by
 have hu71 := Try.underlying71
 have HR0 := Am hr0
 have HC0 := Am hc0
 clear hr0 hc0
 have HB := Am (Below.refl w.heap.size w)
 have H : (if a1 < 0 then (surmiseref03_Check.j0 k l0 a1 a2 true) else (surmiseref03_Check.j0 k l0 a1 a2 (decide (a2 < 0)))) = some (r1, r2) := h
 clear h
 have HC4 := Am H
 clear H
 go_enter Try.func64, Try.ntmps64
 go_upto_region 1 with (fail)
 go_cut [17] (fun v17 wc => ∃ (kq : Nat) (x17_3 : Bool), v17 = .bool x17_3 ∧ Aside0 (surmiseref03_Check.j0 kq l0 a1 a2 x17_3 = some (r1, r2)) ∧ Aside0 (kq ≤ k) ∧ Aside0 (Below w.heap.size w wc))
 case first =>
  have H := HC4.out
  clear HC4
  by_cases c5 : a1 < 0
  ·
   rw [if_pos c5] at H
   have c5b0 : decide (a1 < 0) = true := decide_eq_true c5
   clear c5
   (first | rw [c5b0] | (simp only [i64_w, i32_w]; rw [c5b0]) | skip)
   have H' := Am H
   clear H
   go_wp2
   go_meet
   case rel => exact ⟨_, (true), rq, H', ⟨by first | omega | exact Nat.le_refl _⟩, ⟨bl⟩⟩
  ·
   rw [if_neg c5] at H
   have c5b0 : decide (a1 < 0) = false := decide_eq_false c5
   clear c5
   (first | rw [c5b0] | (simp only [i64_w, i32_w]; rw [c5b0]) | skip)
   have H' := Am H
   clear H
   go_wp2
   go_meet
   case rel => exact ⟨_, (decide (a2 < 0)), rq, H', ⟨by first | omega | exact Nat.le_refl _⟩, ⟨bl⟩⟩
 case rest =>
  clear HC4
  try clear p2
  try clear c5
  try clear c5b0
  obtain ⟨kq, x17_3, rfl, HA, HJ3, HB⟩ := hcut
  cases kq with
  | zero => exact absurd HA.out (by simp [surmiseref03_Check.j0])
  | succ kj3 =>
   have H := HA.out
   clear HA
   simp only [surmiseref03_Check.j0] at H
   by_cases c6 : x17_3 = true
   ·
    subst c6
    have H1 : (some (0, 2)) = some (r1, r2) := by rw [if_pos rfl] at H; exact H
    clear H
    have H := H1
    clear H1
    simp only [Option.some.injEq, Prod.mk.injEq] at H
    obtain ⟨rfl, rfl⟩ := H
    go_wp2
    go_ret2
    exact ⟨xq, bl⟩
   ·
    replace c6 := Bool.eq_false_iff.mpr c6
    subst c6
    have H1 : (if (l0.length : Int) > 31 then (some (0, 4)) else (surmiseref03_Check.l0 kj3 l0 a1 a2 0 0)) = some (r1, r2) := by rw [if_neg (show ¬ (false = true) by decide)] at H; exact H
    clear H
    have H := H1
    clear H1
    by_cases c7 : (l0.length : Int) > 31
    ·
     rw [if_pos c7] at H
     have c7b0 : decide (31 < (l0.length : Int)) = true := decide_eq_true c7
     have c7b1 : decide (31 < l0.length) = true := decide_eq_true (by omega)
     clear c7
     simp only [Option.some.injEq, Prod.mk.injEq] at H
     obtain ⟨rfl, rfl⟩ := H
     go_wp2
     go_ret2
     exact ⟨xq, bl⟩
    ·
     rw [if_neg c7] at H
     have c7b0 : decide (31 < (l0.length : Int)) = false := decide_eq_false c7
     have c7b1 : decide (31 < l0.length) = false := decide_eq_false (by omega)
     clear c7
     have H' := Am H
     clear H
     go_wp2
     go_loopg [8, 9] kj3 (fun kq v8 v9 w' => ∃ (x8_2 : Int) (x9_2 : Int), v8 = .int .i64 x8_2 ∧ v9 = .int .i64 x9_2 ∧ Aside0 (surmiseref03_Check.l0 kq l0 a1 a2 x8_2 x9_2 = some (r1, r2)) ∧ Aside0 (kq ≤ kj3) ∧ Aside0 (Below w.heap.size w w'))
     case atStart => exact ⟨(0), (0), rq, rq, H', ⟨Nat.le_refl _⟩, ⟨bl⟩⟩
     case round =>
      clear H'
      try clear p2
      try clear c5
      try clear c5b0
      try clear c6
      try clear c7
      try clear c7b0
      try clear c7b1
      try clear p2
      obtain ⟨x8_2, x9_2, rfl, rfl, HA, HK2, HB⟩ := hrel
      cases gk with
      | zero => exact absurd HA.out (by simp [surmiseref03_Check.l0])
      | succ k2 =>
       have H := HA.out
       clear HA
       simp only [surmiseref03_Check.l0] at H
       by_cases c8 : x9_2 < (l0.length : Int)
       ·
        rw [if_pos c8] at H
        have c8b0 : decide (x9_2 < (l0.length : Int)) = true := decide_eq_true c8
        clear c8
        by_cases c9 : 0 ≤ x9_2
        ·
         rw [if_pos c9] at H
         have c9b0 : decide (0 ≤ x9_2) = true := decide_eq_true c9
         clear c9
         obtain ⟨t445, A100, H⟩ := Option.bind_eq_some_iff.mp H
         try dsimp only at H
         have A10 := Am A100
         clear A100
         by_cases c11 : t445 < 0
         ·
          rw [if_pos c11] at H
          have c11b0 : decide (t445 < 0) = true := decide_eq_true c11
          clear c11
          simp only [Option.some.injEq, Prod.mk.injEq] at H
          obtain ⟨rfl, rfl⟩ := H
          have p443 : 0 ≤ (x9_2 : Int) := of_decide_eq_true az
          have q443 : x9_2 < (l0.length : Int) := of_decide_eq_true az
          obtain ⟨ad443, e443, hx443_0, hx443_1⟩ := at_T71 HR0.out x9_2 p443 q443
          cases e443
          replace hx443_0 := hX HB hx443_0
          replace hx443_1 := hX HB hx443_1
          replace p443 := eq_true p443
          replace q443 := eq_true q443
          go_wp2_with (first | ((with_reducible refine gate_dst (N := 10) rfl ?_); refine bxe (N := 10) (cs := #[.int .i64 0, .int .i64 0]) (t := 71) ?_; intro gb444 hg w12 hbox hb; have n0_ := Am (below_step (bl) hb); have n1_ := Am (hbox); have n2_ := Am ((gE hg : w.heap.size ≤ gb444)); have n3_ := Am ((gE hg : w.heap.size ≤ gb444)); clear HB; have HB := n0_; have BK444 := n1_; have GW444 := n2_; have GE444 := n3_; clear n0_ n1_ n2_ n3_; clear hb hbox hg; have hcz13_0 := cz0 BK444.out; have hcz13_1 := cz1 BK444.out; have hfz13_0 := fz BK444 0; have hfz13_1 := fz BK444 1) | ((with_reducible refine gate_callee (f := 66) rfl ?_); refine goesL_ (some 33) rfl rfl Try.func66 (by kernel_rfl) rfl #[.int .i64 ((rd_T71 l0 x9_2).f0)] rfl aq ?_; (with_reducible refine (surmiseref03_Takes.calls ((rd_T71 l0 x9_2).f0) t445 _ A10.out).mono ?_); rintro e w14 ⟨rfl, hb⟩; refine ⟨_, rfl, ?_⟩; have n0_ := Am (blk_below (g := gb444) (o := .cells #[.int .i64 ((rd_T71 l0 x9_2).f0), .int .i64 ((rd_T71 l0 x9_2).f1)] 71 (0, 0)) (by (with_reducible repeat (first | refine blk_drewN ?_ _ | refine blk_drew ?_ | refine blk_alloc ?_ _)); refine blk_put (cs := #[.int .i64 ((rd_T71 l0 x9_2).f0), .int .i64 0]) ?_ 1 _ rfl; (with_reducible repeat (first | refine blk_drewN ?_ _ | refine blk_drew ?_ | refine blk_alloc ?_ _)); refine blk_put (cs := #[.int .i64 0, .int .i64 0]) ?_ 0 _ rfl; (with_reducible repeat (first | refine blk_drewN ?_ _ | refine blk_drew ?_ | refine blk_alloc ?_ _)); exact BK444.out) hb); have n1_ := Am (below_step (bs) hb); clear BK444; clear HB; have BK444 := n0_; have HB := n1_; clear n0_ n1_; (try clear hb); (try clear hb2); (try clear hk); (try clear hi)))
          go_ret2
          exact ⟨xq, bs⟩
         ·
          rw [if_neg c11] at H
          have c11b0 : decide (t445 < 0) = false := decide_eq_false c11
          clear c11
          have HC15 := Am H
          clear H
          have p443 : 0 ≤ (x9_2 : Int) := of_decide_eq_true az
          have q443 : x9_2 < (l0.length : Int) := of_decide_eq_true az
          obtain ⟨ad443, e443, hx443_0, hx443_1⟩ := at_T71 HR0.out x9_2 p443 q443
          cases e443
          replace hx443_0 := hX HB hx443_0
          replace hx443_1 := hX HB hx443_1
          replace p443 := eq_true p443
          replace q443 := eq_true q443
          go_upto_if 41 with (first | ((with_reducible refine gate_dst (N := 10) rfl ?_); refine bxe (N := 10) (cs := #[.int .i64 0, .int .i64 0]) (t := 71) ?_; intro gb444 hg w16 hbox hb; have n0_ := Am (below_step (bl) hb); have n1_ := Am (hbox); have n2_ := Am ((gE hg : w.heap.size ≤ gb444)); have n3_ := Am ((gE hg : w.heap.size ≤ gb444)); clear HB; have HB := n0_; have BK444 := n1_; have GW444 := n2_; have GE444 := n3_; clear n0_ n1_ n2_ n3_; clear hb hbox hg; have hcz17_0 := cz0 BK444.out; have hcz17_1 := cz1 BK444.out; have hfz17_0 := fz BK444 0; have hfz17_1 := fz BK444 1) | ((with_reducible refine gate_callee (f := 66) rfl ?_); refine goesL_ (some 33) rfl rfl Try.func66 (by kernel_rfl) rfl #[.int .i64 ((rd_T71 l0 x9_2).f0)] rfl aq ?_; (with_reducible refine (surmiseref03_Takes.calls ((rd_T71 l0 x9_2).f0) t445 _ A10.out).mono ?_); rintro e w18 ⟨rfl, hb⟩; refine ⟨_, rfl, ?_⟩; have n0_ := Am (blk_below (g := gb444) (o := .cells #[.int .i64 ((rd_T71 l0 x9_2).f0), .int .i64 ((rd_T71 l0 x9_2).f1)] 71 (0, 0)) (by (with_reducible repeat (first | refine blk_drewN ?_ _ | refine blk_drew ?_ | refine blk_alloc ?_ _)); refine blk_put (cs := #[.int .i64 ((rd_T71 l0 x9_2).f0), .int .i64 0]) ?_ 1 _ rfl; (with_reducible repeat (first | refine blk_drewN ?_ _ | refine blk_drew ?_ | refine blk_alloc ?_ _)); refine blk_put (cs := #[.int .i64 0, .int .i64 0]) ?_ 0 _ rfl; (with_reducible repeat (first | refine blk_drewN ?_ _ | refine blk_drew ?_ | refine blk_alloc ?_ _)); exact BK444.out) hb); have n1_ := Am (below_step (bs) hb); clear BK444; clear HB; have BK444 := n0_; have HB := n1_; clear n0_ n1_; (try clear hb); (try clear hb2); (try clear hk); (try clear hi); have hcz19_0 := cz0 BK444.out; have hcz19_1 := cz1 BK444.out; have hfz19_0 := fz BK444 0; have hfz19_1 := fz BK444 1))
          (try simp only [Act.put, List.setIfInBounds_toArray, List.set_cons_zero, List.set_cons_succ])
          go_cut [11] (fun v11 wc => ∃ (kq : Nat) (x11_14 : Bool), v11 = .bool x11_14 ∧ Aside0 (surmiseref03_Check.j2 kq l0 a1 a2 x8_2 x9_2 x11_14 ((rd_T71 l0 x9_2).f0) ((rd_T71 l0 x9_2).f1) = some (r1, r2)) ∧ Aside0 (kq ≤ k2) ∧ Aside0 (wc.heap[gb444]? = some (.cells #[.int .i64 ((rd_T71 l0 x9_2).f0), .int .i64 ((rd_T71 l0 x9_2).f1)] 71 (0, 0))) ∧ Aside0 (Below w.heap.size w wc))
          case first =>
           have H := HC15.out
           clear HC15
           by_cases c20 : ((rd_T71 l0 x9_2).f0) = 1
           ·
            rw [if_pos c20] at H
            have c20b0 : (((rd_T71 l0 x9_2).f0) == 1) = true := beq_iff_eq.mpr c20
            have c20b1 : (((rd_T71 l0 x9_2).f0) != 1) = false := bne_eq_false_iff_eq.mpr c20
            clear c20
            (first | rw [c20b0] | (simp only [i64_w, i32_w]; rw [c20b0]) | skip)
            obtain ⟨t446, A210, H⟩ := Option.bind_eq_some_iff.mp H
            replace H : (surmiseref03_Check.j2 k2 l0 a1 a2 x8_2 x9_2 t446 ((rd_T71 l0 x9_2).f0) ((rd_T71 l0 x9_2).f1)) = some (r1, r2) := H
            have A21 := Am A210
            clear A210
            have H' := Am H
            clear H
            have hcz22_0 := cz0 BK444.out
            have hcz22_1 := cz1 BK444.out
            have hfz22_0 := fz BK444 0
            have hfz22_1 := fz BK444 1
            go_wp2_with (first | ((with_reducible refine gate_callee (f := 31) rfl ?_); refine goesL_ (some 44) rfl rfl Try.func31 (by kernel_rfl) rfl #[.int .i64 ((rd_T71 l0 x9_2).f1)] rfl aq ?_; (with_reducible refine (surmiseref03_Value.calls ((rd_T71 l0 x9_2).f1) t446 _ A21.out).mono ?_); rintro e w' ⟨rfl, ⟨nd, rfl⟩⟩; refine ⟨_, rfl, ?_⟩))
            go_meet
            case rel => exact ⟨_, (t446), rq, H', ⟨by have := HJ3.out; have := HK2.out; first | omega | exact Nat.le_refl _⟩, ⟨kB BK444⟩, ⟨bs⟩⟩
           ·
            rw [if_neg c20] at H
            have c20b0 : (((rd_T71 l0 x9_2).f0) == 1) = false := beq_eq_false_iff_ne.mpr c20
            have c20b1 : (((rd_T71 l0 x9_2).f0) != 1) = true := bne_iff_ne.mpr c20
            (first | rw [c20b0] | (simp only [i64_w, i32_w]; rw [c20b0]) | skip)
            have H' := Am H
            clear H
            go_wp2
            go_meet
            case rel => exact ⟨_, ((((rd_T71 l0 x9_2).f1) == 0)), rq, H', ⟨by have := HJ3.out; have := HK2.out; first | omega | exact Nat.le_refl _⟩, ⟨kB BK444⟩, ⟨bs⟩⟩
          case rest =>
           clear HC15
           try clear c1
           try clear c2
           try clear p2
           try clear c3
           try clear p4
           try clear q4
           try clear hx4
           try clear c5
           try clear c5b0
           try clear c6
           try clear c7
           try clear c7b0
           try clear c7b1
           try clear c8
           try clear c8b0
           try clear c9
           try clear c9b0
           try clear c11
           try clear c11b0
           try clear c20
           try clear c20b0
           try clear c20b1
           try clear hcz13_0
           try clear hcz13_1
           try clear hcz17_0
           try clear hcz17_1
           try clear hcz19_0
           try clear hcz19_1
           try clear hcz22_0
           try clear hcz22_1
           try clear hfz13_0
           try clear hfz13_1
           try clear hfz17_0
           try clear hfz17_1
           try clear hfz19_0
           try clear hfz19_1
           try clear hfz22_0
           try clear hfz22_1
           try clear hx443_0
           try clear hx443_1
           try clear p2
           try clear p443
           try clear q443
           obtain ⟨kq, x11_14, rfl, HA, HJ14, BK444, HB⟩ := hcut
           cases kq with
           | zero => exact absurd HA.out (by simp [surmiseref03_Check.j2])
           | succ kj14 =>
            have H := HA.out
            clear HA
            simp only [surmiseref03_Check.j2] at H
            have HC23 := Am H
            clear H
            have hcz24_0 := cz0 BK444.out
            have hcz24_1 := cz1 BK444.out
            have hfz24_0 := fz BK444 0
            have hfz24_1 := fz BK444 1
            go_upto_if 47 with (fail)
            go_cut [11] (fun v11 wc => ∃ (kq : Nat) (x11_22 : Bool), v11 = .bool x11_22 ∧ Aside0 (surmiseref03_Check.j3 kq l0 a1 a2 x8_2 x9_2 x11_22 ((rd_T71 l0 x9_2).f0) ((rd_T71 l0 x9_2).f1) = some (r1, r2)) ∧ Aside0 (kq ≤ kj14) ∧ Aside0 (wc.heap[gb444]? = some (.cells #[.int .i64 ((rd_T71 l0 x9_2).f0), .int .i64 ((rd_T71 l0 x9_2).f1)] 71 (0, 0))) ∧ Aside0 (Below w.heap.size w wc))
            case first =>
             have H := HC23.out
             clear HC23
             by_cases c25 : ((rd_T71 l0 x9_2).f0) = 2
             ·
              rw [if_pos c25] at H
              have c25b0 : (((rd_T71 l0 x9_2).f0) == 2) = true := beq_iff_eq.mpr c25
              have c25b1 : (((rd_T71 l0 x9_2).f0) != 2) = false := bne_eq_false_iff_eq.mpr c25
              clear c25
              (first | rw [c25b0] | (simp only [i64_w, i32_w]; rw [c25b0]) | skip)
              by_cases c26 : ((rd_T71 l0 x9_2).f1) ≥ 0
              ·
               rw [if_pos c26] at H
               have c26b0 : decide (0 ≤ ((rd_T71 l0 x9_2).f1)) = true := decide_eq_true c26
               clear c26
               have H' := Am H
               clear H
               have hcz27_0 := cz0 BK444.out
               have hcz27_1 := cz1 BK444.out
               have hfz27_0 := fz BK444 0
               have hfz27_1 := fz BK444 1
               go_wp2
               go_meet
               case rel => exact ⟨_, (decide (((rd_T71 l0 x9_2).f1) < a1)), rq, H', ⟨by have := HJ3.out; have := HK2.out; have := HJ14.out; first | omega | exact Nat.le_refl _⟩, ⟨kB BK444⟩, ⟨bs⟩⟩
              ·
               rw [if_neg c26] at H
               have c26b0 : decide (0 ≤ ((rd_T71 l0 x9_2).f1)) = false := decide_eq_false c26
               clear c26
               have H' := Am H
               clear H
               have hcz28_0 := cz0 BK444.out
               have hcz28_1 := cz1 BK444.out
               have hfz28_0 := fz BK444 0
               have hfz28_1 := fz BK444 1
               go_wp2
               go_meet
               case rel => exact ⟨_, (false), rq, H', ⟨by have := HJ3.out; have := HK2.out; have := HJ14.out; first | omega | exact Nat.le_refl _⟩, ⟨kB BK444⟩, ⟨bs⟩⟩
             ·
              rw [if_neg c25] at H
              have c25b0 : (((rd_T71 l0 x9_2).f0) == 2) = false := beq_eq_false_iff_ne.mpr c25
              have c25b1 : (((rd_T71 l0 x9_2).f0) != 2) = true := bne_iff_ne.mpr c25
              (first | rw [c25b0] | (simp only [i64_w, i32_w]; rw [c25b0]) | skip)
              have H' := Am H
              clear H
              go_wp2
              go_meet
              case rel => exact ⟨_, (x11_14), rq, H', ⟨by have := HJ3.out; have := HK2.out; have := HJ14.out; first | omega | exact Nat.le_refl _⟩, ⟨kB BK444⟩, ⟨bs⟩⟩
            case rest =>
             clear HC23
             try clear c1
             try clear c2
             try clear p2
             try clear c3
             try clear p4
             try clear q4
             try clear hx4
             try clear c5
             try clear c5b0
             try clear c6
             try clear c7
             try clear c7b0
             try clear c7b1
             try clear c8
             try clear c8b0
             try clear c9
             try clear c9b0
             try clear c11
             try clear c11b0
             try clear c20
             try clear c20b0
             try clear c20b1
             try clear c25
             try clear c25b0
             try clear c25b1
             try clear c26
             try clear c26b0
             try clear hcz13_0
             try clear hcz13_1
             try clear hcz17_0
             try clear hcz17_1
             try clear hcz19_0
             try clear hcz19_1
             try clear hcz22_0
             try clear hcz22_1
             try clear hcz24_0
             try clear hcz24_1
             try clear hcz27_0
             try clear hcz27_1
             try clear hcz28_0
             try clear hcz28_1
             try clear hfz13_0
             try clear hfz13_1
             try clear hfz17_0
             try clear hfz17_1
             try clear hfz19_0
             try clear hfz19_1
             try clear hfz22_0
             try clear hfz22_1
             try clear hfz24_0
             try clear hfz24_1
             try clear hfz27_0
             try clear hfz27_1
             try clear hfz28_0
             try clear hfz28_1
             try clear hx443_0
             try clear hx443_1
             try clear p2
             try clear p4
             try clear p443
             try clear q4
             try clear q443
             obtain ⟨kq, x11_22, rfl, HA, HJ22, BK444, HB⟩ := hcut
             cases kq with
             | zero => exact absurd HA.out (by simp [surmiseref03_Check.j3])
             | succ kj22 =>
              have H := HA.out
              clear HA
              simp only [surmiseref03_Check.j3] at H
              have HC29 := Am H
              clear H
              have hcz30_0 := cz0 BK444.out
              have hcz30_1 := cz1 BK444.out
              have hfz30_0 := fz BK444 0
              have hfz30_1 := fz BK444 1
              go_upto_if 59 with (fail)
              go_cut [11] (fun v11 wc => ∃ (kq : Nat) (x11_28 : Bool), v11 = .bool x11_28 ∧ Aside0 (surmiseref03_Check.j4 kq l0 a1 a2 x8_2 x9_2 x11_28 ((rd_T71 l0 x9_2).f0) ((rd_T71 l0 x9_2).f1) = some (r1, r2)) ∧ Aside0 (kq ≤ kj22) ∧ Aside0 (wc.heap[gb444]? = some (.cells #[.int .i64 ((rd_T71 l0 x9_2).f0), .int .i64 ((rd_T71 l0 x9_2).f1)] 71 (0, 0))) ∧ Aside0 (Below w.heap.size w wc))
              case first =>
               have H := HC29.out
               clear HC29
               by_cases c31 : ((rd_T71 l0 x9_2).f0) = 3
               ·
                rw [if_pos c31] at H
                have c31b0 : (((rd_T71 l0 x9_2).f0) == 3) = true := beq_iff_eq.mpr c31
                have c31b1 : (((rd_T71 l0 x9_2).f0) != 3) = false := bne_eq_false_iff_eq.mpr c31
                clear c31
                (first | rw [c31b0] | (simp only [i64_w, i32_w]; rw [c31b0]) | skip)
                by_cases c32 : ((rd_T71 l0 x9_2).f1) ≥ 0
                ·
                 rw [if_pos c32] at H
                 have c32b0 : decide (0 ≤ ((rd_T71 l0 x9_2).f1)) = true := decide_eq_true c32
                 clear c32
                 have H' := Am H
                 clear H
                 have hcz33_0 := cz0 BK444.out
                 have hcz33_1 := cz1 BK444.out
                 have hfz33_0 := fz BK444 0
                 have hfz33_1 := fz BK444 1
                 go_wp2
                 go_meet
                 case rel => exact ⟨_, (decide (((rd_T71 l0 x9_2).f1) < a2)), rq, H', ⟨by have := HJ3.out; have := HK2.out; have := HJ14.out; have := HJ22.out; first | omega | exact Nat.le_refl _⟩, ⟨kB BK444⟩, ⟨bs⟩⟩
                ·
                 rw [if_neg c32] at H
                 have c32b0 : decide (0 ≤ ((rd_T71 l0 x9_2).f1)) = false := decide_eq_false c32
                 clear c32
                 have H' := Am H
                 clear H
                 have hcz34_0 := cz0 BK444.out
                 have hcz34_1 := cz1 BK444.out
                 have hfz34_0 := fz BK444 0
                 have hfz34_1 := fz BK444 1
                 go_wp2
                 go_meet
                 case rel => exact ⟨_, (false), rq, H', ⟨by have := HJ3.out; have := HK2.out; have := HJ14.out; have := HJ22.out; first | omega | exact Nat.le_refl _⟩, ⟨kB BK444⟩, ⟨bs⟩⟩
               ·
                rw [if_neg c31] at H
                have c31b0 : (((rd_T71 l0 x9_2).f0) == 3) = false := beq_eq_false_iff_ne.mpr c31
                have c31b1 : (((rd_T71 l0 x9_2).f0) != 3) = true := bne_iff_ne.mpr c31
                (first | rw [c31b0] | (simp only [i64_w, i32_w]; rw [c31b0]) | skip)
                have H' := Am H
                clear H
                go_wp2
                go_meet
                case rel => exact ⟨_, (x11_22), rq, H', ⟨by have := HJ3.out; have := HK2.out; have := HJ14.out; have := HJ22.out; first | omega | exact Nat.le_refl _⟩, ⟨kB BK444⟩, ⟨bs⟩⟩
              case rest =>
               clear HC29
               try clear c1
               try clear c2
               try clear p2
               try clear c3
               try clear p4
               try clear q4
               try clear hx4
               try clear c5
               try clear c5b0
               try clear c6
               try clear c7
               try clear c7b0
               try clear c7b1
               try clear c8
               try clear c8b0
               try clear c9
               try clear c9b0
               try clear c11
               try clear c11b0
               try clear c20
               try clear c20b0
               try clear c20b1
               try clear c25
               try clear c25b0
               try clear c25b1
               try clear c26
               try clear c26b0
               try clear c31
               try clear c31b0
               try clear c31b1
               try clear c32
               try clear c32b0
               try clear hcz13_0
               try clear hcz13_1
               try clear hcz17_0
               try clear hcz17_1
               try clear hcz19_0
               try clear hcz19_1
               try clear hcz22_0
               try clear hcz22_1
               try clear hcz24_0
               try clear hcz24_1
               try clear hcz27_0
               try clear hcz27_1
               try clear hcz28_0
               try clear hcz28_1
               try clear hcz30_0
               try clear hcz30_1
               try clear hcz33_0
               try clear hcz33_1
               try clear hcz34_0
               try clear hcz34_1
               try clear hfz13_0
               try clear hfz13_1
               try clear hfz17_0
               try clear hfz17_1
               try clear hfz19_0
               try clear hfz19_1
               try clear hfz22_0
               try clear hfz22_1
               try clear hfz24_0
               try clear hfz24_1
               try clear hfz27_0
               try clear hfz27_1
               try clear hfz28_0
               try clear hfz28_1
               try clear hfz30_0
               try clear hfz30_1
               try clear hfz33_0
               try clear hfz33_1
               try clear hfz34_0
               try clear hfz34_1
               try clear hx443_0
               try clear hx443_1
               try clear p2
               try clear p4
               try clear p443
               try clear q4
               try clear q443
               obtain ⟨kq, x11_28, rfl, HA, HJ28, BK444, HB⟩ := hcut
               cases kq with
               | zero => exact absurd HA.out (by simp [surmiseref03_Check.j4])
               | succ kj28 =>
                have H := HA.out
                clear HA
                simp only [surmiseref03_Check.j4] at H
                by_cases c35 : x11_28 = true
                ·
                 subst c35
                 have H1 : ((surmiseref03_Takes.f ((rd_T71 l0 x9_2).f0)).bind fun t447 => (if t447 > x8_2 then (some (x9_2, 5)) else ((surmiseref03_Takes.f ((rd_T71 l0 x9_2).f0)).bind fun t448 => (surmiseref03_Check.l0 kj28 l0 a1 a2 (wrap64 ((wrap64 (x8_2 - t448)) + 1)) (wrap64 (x9_2 + 1)))))) = some (r1, r2) := by rw [if_pos rfl] at H; exact H
                 clear H
                 have H := H1
                 clear H1
                 obtain ⟨t447, A360, H⟩ := Option.bind_eq_some_iff.mp H
                 replace H : (if t447 > x8_2 then (some (x9_2, 5)) else ((surmiseref03_Takes.f ((rd_T71 l0 x9_2).f0)).bind fun t448 => (surmiseref03_Check.l0 kj28 l0 a1 a2 (wrap64 ((wrap64 (x8_2 - t448)) + 1)) (wrap64 (x9_2 + 1))))) = some (r1, r2) := H
                 have A36 := Am A360
                 clear A360
                 by_cases c37 : t447 > x8_2
                 ·
                  rw [if_pos c37] at H
                  have c37b0 : decide (x8_2 < t447) = true := decide_eq_true c37
                  clear c37
                  simp only [Option.some.injEq, Prod.mk.injEq] at H
                  obtain ⟨rfl, rfl⟩ := H
                  have hcz38_0 := cz0 BK444.out
                  have hcz38_1 := cz1 BK444.out
                  have hfz38_0 := fz BK444 0
                  have hfz38_1 := fz BK444 1
                  go_wp2_with (first | ((with_reducible refine gate_callee (f := 66) rfl ?_); refine goesL_ (some 74) rfl rfl Try.func66 (by kernel_rfl) rfl #[.int .i64 ((rd_T71 l0 x9_2).f0)] rfl aq ?_; (with_reducible refine (surmiseref03_Takes.calls ((rd_T71 l0 x9_2).f0) t447 _ A36.out).mono ?_); rintro e w39 ⟨rfl, hb⟩; refine ⟨_, rfl, ?_⟩; have n0_ := Am (blk_below (kB BK444) hb); have n1_ := Am (below_step (bs) hb); clear BK444; clear HB; have BK444 := n0_; have HB := n1_; clear n0_ n1_; (try clear hb); (try clear hb2); (try clear hk); (try clear hi)))
                  go_ret2
                  exact ⟨xq, bs⟩
                 ·
                  rw [if_neg c37] at H
                  have c37b0 : decide (x8_2 < t447) = false := decide_eq_false c37
                  clear c37
                  obtain ⟨t448, A400, H⟩ := Option.bind_eq_some_iff.mp H
                  replace H : (surmiseref03_Check.l0 kj28 l0 a1 a2 (wrap64 ((wrap64 (x8_2 - t448)) + 1)) (wrap64 (x9_2 + 1))) = some (r1, r2) := H
                  have A40 := Am A400
                  clear A400
                  have H' := Am H
                  clear H
                  have hcz41_0 := cz0 BK444.out
                  have hcz41_1 := cz1 BK444.out
                  have hfz41_0 := fz BK444 0
                  have hfz41_1 := fz BK444 1
                  go_wp2_with (first | ((with_reducible refine gate_callee (f := 66) rfl ?_); refine goesL_ (some 74) rfl rfl Try.func66 (by kernel_rfl) rfl #[.int .i64 ((rd_T71 l0 x9_2).f0)] rfl aq ?_; (with_reducible refine (surmiseref03_Takes.calls ((rd_T71 l0 x9_2).f0) t447 _ A36.out).mono ?_); rintro e w42 ⟨rfl, hb⟩; refine ⟨_, rfl, ?_⟩; have n0_ := Am (blk_below (kB BK444) hb); have n1_ := Am (below_step (bs) hb); clear BK444; clear HB; have BK444 := n0_; have HB := n1_; clear n0_ n1_; (try clear hb); (try clear hb2); (try clear hk); (try clear hi); have hcz43_0 := cz0 BK444.out; have hcz43_1 := cz1 BK444.out; have hfz43_0 := fz BK444 0; have hfz43_1 := fz BK444 1) | ((with_reducible refine gate_callee (f := 66) rfl ?_); refine goesL_ (some 81) rfl rfl Try.func66 (by kernel_rfl) rfl #[.int .i64 ((rd_T71 l0 x9_2).f0)] rfl aq ?_; (with_reducible refine (surmiseref03_Takes.calls ((rd_T71 l0 x9_2).f0) t448 _ A40.out).mono ?_); rintro e w44 ⟨rfl, hb⟩; refine ⟨_, rfl, ?_⟩; have n0_ := Am (blk_below (kB BK444) hb); have n1_ := Am (below_step (bs) hb); clear BK444; clear HB; have BK444 := n0_; have HB := n1_; clear n0_ n1_; (try clear hb); (try clear hb2); (try clear hk); (try clear hi)))
                  go_roundg kj28
                  case measure => have := HJ3.out; have := HK2.out; have := HJ14.out; have := HJ22.out; have := HJ28.out; omega
                  case rel => exact ⟨(wrap64 ((wrap64 (x8_2 - t448)) + 1)), (wrap64 (x9_2 + 1)), rq, rq, H', ⟨by have := HJ3.out; have := HK2.out; have := HJ14.out; have := HJ22.out; have := HJ28.out; omega⟩, ⟨bs⟩⟩
                ·
                 replace c35 := Bool.eq_false_iff.mpr c35
                 subst c35
                 have H1 : (some (x9_2, 3)) = some (r1, r2) := by rw [if_neg (show ¬ (false = true) by decide)] at H; exact H
                 clear H
                 have H := H1
                 clear H1
                 simp only [Option.some.injEq, Prod.mk.injEq] at H
                 obtain ⟨rfl, rfl⟩ := H
                 go_wp2
                 go_ret2
                 exact ⟨xq, bs⟩
        ·
         rw [if_neg c9] at H
         exact absurd H (by simp)
       ·
        rw [if_neg c8] at H
        have c8b0 : decide (x9_2 < (l0.length : Int)) = false := decide_eq_false c8
        clear c8
        by_cases c45 : x8_2 = 1
        ·
         rw [if_pos c45] at H
         have c45b0 : (x8_2 == 1) = true := beq_iff_eq.mpr c45
         have c45b1 : (x8_2 != 1) = false := bne_eq_false_iff_eq.mpr c45
         clear c45
         simp only [Option.some.injEq, Prod.mk.injEq] at H
         obtain ⟨rfl, rfl⟩ := H
         go_wp2
         go_ret2
         exact ⟨xq, bl⟩
        ·
         rw [if_neg c45] at H
         have c45b0 : (x8_2 == 1) = false := beq_eq_false_iff_ne.mpr c45
         have c45b1 : (x8_2 != 1) = true := bne_iff_ne.mpr c45
         simp only [Option.some.injEq, Prod.mk.injEq] at H
         obtain ⟨rfl, rfl⟩ := H
         go_wp2
         go_ret2
         exact ⟨xq, bl⟩

/-! ### surmiseref05_code: function 61 -/
def surmiseref05_code.f (k : Nat) (l0 : List (S71)) (a1 : Int) (a2 : Int) : Option (Int) := (surmiseref03_Check.f k l0 a1 a2).bind fun bt449 => (some bt449.2)
theorem surmiseref05_code.mono : ∀ a0 a1 a2 k, LeO (surmiseref05_code.f k a0 a1 a2) (surmiseref05_code.f (k + 1) a0 a1 a2) := by
 intro a0 a1 a2 k
 unfold surmiseref05_code.f
 repeat' first
   | (with_reducible exact surmiseref03_Check.mono _ _ _ _)
   | (with_reducible exact LeO.refl _)
   | (with_reducible exact LeO.none _)
   | (with_reducible refine LeO.ite ?_ ?_)
   | (with_reducible refine LeO.bind ?_ (fun _ => ?_))
   | exact surmiseref03_Check.mono _ _ _ _
   | exact LeO.none _
   | refine LeO.ite ?_ ?_
   | refine LeO.bind ?_ (fun _ => ?_)
set_option maxHeartbeats 8000000 in
set_option maxRecDepth 100000 in
theorem surmiseref05_code.calls (k : Nat) (A0 : Option Addr) (c0 : Nat) (l0 : List (S71)) (a1 : Int) (a2 : Int) (r : Int) (w : World) (hr0 : Kd.C k71 w A0 l0.length l0) (hc0 : l0.length ≤ c0) (h : surmiseref05_code.f k l0 a1 a2 = some r) :
  Calls Try.prog 61 #[.slice A0 l0.length c0, .int .i64 a1, .int .i64 a2] w fun e w' => e = .returned (.int .i64 r) ∧ Below w.heap.size w w' := by
 have HR0 := Am hr0
 have HC0 := Am hc0
 clear hr0 hc0
 have HB := Am (Below.refl w.heap.size w)
 have H : ((surmiseref03_Check.f k l0 a1 a2).bind fun bt449 => (some bt449.2)) = some r := h
 clear h
 obtain ⟨⟨t449, t450⟩, A40, H⟩ := Option.bind_eq_some_iff.mp H
 replace H : (some t450) = some r := H
 have A4 := Am A40
 clear A40
 obtain rfl := Option.some.inj H
 go_enter Try.func61, Try.ntmps61
 go_wp2_with (first | ((with_reducible refine gate_callee (f := 64) rfl ?_); refine goesL_ (some 13) rfl rfl Try.func64 (by kernel_rfl) rfl #[.slice A0 l0.length c0, .int .i64 a1, .int .i64 a2] rfl aq ?_; (with_reducible refine (surmiseref03_Check.calls k _ _ l0 a1 a2 t449 t450 _ ?side1 ?side2 A4.out).mono ?_); (case side1 => repeat (first | exact HR0.out | (with_reducible refine Kd.C_alloc ?_ _) | (with_reducible refine Kd.C_drewN ?_ _) | (with_reducible refine Kd.C_drew ?_))); (case side2 => exact HC0.out); rintro e w5 ⟨rfl, hb⟩; refine ⟨_, rfl, ?_⟩; have n0_ := Am (below_step (bl) hb); clear HB; have HB := n0_; clear n0_; (try clear hb); (try clear hb2); (try clear hk); (try clear hi)))
 go_ret
 exact ⟨xq, bl⟩

/-! ### surmiseref05_guard: function 53 -/
def surmiseref05_guard.f (k : Nat) (a0_0 : Int) (l0_1 : List (S71)) (l1_0 : List ByteArray) (l1_1 : List ByteArray) (l1_2 : List Int) (l1_3 : List (S38)) (a2 : Int) : Option (Int) := if a0_0 < 16 then (some 3) else (if a0_0 > 63 then (some 3) else ((surmiseref05_code.f k l0_1 (l1_1.length : Int) a2).bind fun t453 => (some t453)))
theorem surmiseref05_guard.mono : ∀ a0 a1 a2 a3 a4 a5 a6 k, LeO (surmiseref05_guard.f k a0 a1 a2 a3 a4 a5 a6) (surmiseref05_guard.f (k + 1) a0 a1 a2 a3 a4 a5 a6) := by
 intro a0 a1 a2 a3 a4 a5 a6 k
 unfold surmiseref05_guard.f
 repeat' first
   | (with_reducible exact surmiseref05_code.mono _ _ _ _)
   | (with_reducible exact LeO.refl _)
   | (with_reducible exact LeO.none _)
   | (with_reducible refine LeO.ite ?_ ?_)
   | (with_reducible refine LeO.bind ?_ (fun _ => ?_))
   | exact surmiseref05_code.mono _ _ _ _
   | exact LeO.none _
   | refine LeO.ite ?_ ?_
   | refine LeO.bind ?_ (fun _ => ?_)
set_option maxHeartbeats 8000000 in
set_option maxRecDepth 100000 in
theorem surmiseref05_guard.calls (k : Nat) (a0_0 : Int) (A0_1 : Option Addr) (c0_1 : Nat) (l0_1 : List (S71)) (A1_0 : Option Addr) (c1_0 : Nat) (l1_0 : List ByteArray) (A1_1 : Option Addr) (c1_1 : Nat) (l1_1 : List ByteArray) (A1_2 : Option Addr) (c1_2 : Nat) (l1_2 : List Int) (A1_3 : Option Addr) (c1_3 : Nat) (l1_3 : List (S38)) (a2 : Int) (r : Int) (w : World) (hr0_1 : Kd.C k71 w A0_1 l0_1.length l0_1) (hc0_1 : l0_1.length ≤ c0_1) (hr1_0 : Kd.C Kd.string w A1_0 l1_0.length l1_0) (hc1_0 : l1_0.length ≤ c1_0) (hr1_1 : Kd.C Kd.string w A1_1 l1_1.length l1_1) (hc1_1 : l1_1.length ≤ c1_1) (hr1_2 : Kd.C (Kd.int .i64) w A1_2 l1_2.length l1_2) (hc1_2 : l1_2.length ≤ c1_2) (hr1_3 : Kd.C k38 w A1_3 l1_3.length l1_3) (hc1_3 : l1_3.length ≤ c1_3) (h : surmiseref05_guard.f k a0_0 l0_1 l1_0 l1_1 l1_2 l1_3 a2 = some r) :
  Calls Try.prog 53 #[.agg #[.int .i64 a0_0, .slice A0_1 l0_1.length c0_1], .agg #[.slice A1_0 l1_0.length c1_0, .slice A1_1 l1_1.length c1_1, .slice A1_2 l1_2.length c1_2, .slice A1_3 l1_3.length c1_3], .int .i64 a2] w fun e w' => e = .returned (.int .i64 r) ∧ Below w.heap.size w w' := by
 have hu66 := Try.underlying66
 have hu26 := Try.underlying26
 have HR0_1 := Am hr0_1
 have HC0_1 := Am hc0_1
 clear hr0_1 hc0_1
 have HR1_0 := Am hr1_0
 have HC1_0 := Am hc1_0
 clear hr1_0 hc1_0
 have HR1_1 := Am hr1_1
 have HC1_1 := Am hc1_1
 clear hr1_1 hc1_1
 have HR1_2 := Am hr1_2
 have HC1_2 := Am hc1_2
 clear hr1_2 hc1_2
 have HR1_3 := Am hr1_3
 have HC1_3 := Am hc1_3
 clear hr1_3 hc1_3
 have HB := Am (Below.refl w.heap.size w)
 have H : (if a0_0 < 16 then (some 3) else (if a0_0 > 63 then (some 3) else ((surmiseref05_code.f k l0_1 (l1_1.length : Int) a2).bind fun t453 => (some t453)))) = some r := h
 clear h
 by_cases c4 : a0_0 < 16
 ·
  rw [if_pos c4] at H
  have c4b0 : decide (a0_0 < 16) = true := decide_eq_true c4
  clear c4
  obtain rfl := Option.some.inj H
  go_enter Try.func53, Try.ntmps53
  go_wp2_with (first | ((with_reducible refine gate_dst (N := 3) rfl ?_); refine bxe (N := 3) (cs := #[.int .i64 a0_0, .slice A0_1 l0_1.length c0_1]) (t := 66) ?_; intro gb451 hg w5 hbox hb; have n0_ := Am (below_step (bl) hb); have n1_ := Am (hbox); have n2_ := Am ((gE hg : w.heap.size ≤ gb451)); have n3_ := Am ((gE hg : w.heap.size ≤ gb451)); clear HB; have HB := n0_; have BK451 := n1_; have GW451 := n2_; have GE451 := n3_; clear n0_ n1_ n2_ n3_; clear hb hbox hg) | ((with_reducible refine gate_dst (N := 4) rfl ?_); refine bxe (N := 4) (cs := #[.slice A1_0 l1_0.length c1_0, .slice A1_1 l1_1.length c1_1, .slice A1_2 l1_2.length c1_2, .slice A1_3 l1_3.length c1_3]) (t := 26) ?_; intro gb452 hg w6 hbox hb; have n0_ := Am (blk_below (kB BK451) hb); have n1_ := Am (below_step (bs) hb); have n2_ := Am (hbox); have n3_ := Am ((gE hg : w.heap.size ≤ gb452)); have n4_ := Am ((gE hg : w.heap.size ≤ gb452)); have n5_ := Am (nL hg BK451); have n6_ := Am (nG hg BK451); clear BK451; clear HB; have BK451 := n0_; have HB := n1_; have BK452 := n2_; have GW452 := n3_; have GE452 := n4_; have NB451_452 := n5_; have NB452_451 := n6_; clear n0_ n1_ n2_ n3_ n4_ n5_ n6_; clear hb hbox hg; have hnb7 := NB451_452.out; have hnc7 := NB452_451.out; have hcz8_0 := cz0 BK451.out; have hcz8_1 := cz1 BK451.out; have hfz8_0 := fz BK451 0; have hfz8_1 := fz BK451 1))
  go_ret
  exact ⟨xq, bs⟩
 ·
  rw [if_neg c4] at H
  have c4b0 : decide (a0_0 < 16) = false := decide_eq_false c4
  clear c4
  by_cases c9 : a0_0 > 63
  ·
   rw [if_pos c9] at H
   have c9b0 : decide (63 < a0_0) = true := decide_eq_true c9
   clear c9
   obtain rfl := Option.some.inj H
   go_enter Try.func53, Try.ntmps53
   go_wp2_with (first | ((with_reducible refine gate_dst (N := 3) rfl ?_); refine bxe (N := 3) (cs := #[.int .i64 a0_0, .slice A0_1 l0_1.length c0_1]) (t := 66) ?_; intro gb451 hg w10 hbox hb; have n0_ := Am (below_step (bl) hb); have n1_ := Am (hbox); have n2_ := Am ((gE hg : w.heap.size ≤ gb451)); have n3_ := Am ((gE hg : w.heap.size ≤ gb451)); clear HB; have HB := n0_; have BK451 := n1_; have GW451 := n2_; have GE451 := n3_; clear n0_ n1_ n2_ n3_; clear hb hbox hg) | ((with_reducible refine gate_dst (N := 4) rfl ?_); refine bxe (N := 4) (cs := #[.slice A1_0 l1_0.length c1_0, .slice A1_1 l1_1.length c1_1, .slice A1_2 l1_2.length c1_2, .slice A1_3 l1_3.length c1_3]) (t := 26) ?_; intro gb452 hg w11 hbox hb; have n0_ := Am (blk_below (kB BK451) hb); have n1_ := Am (below_step (bs) hb); have n2_ := Am (hbox); have n3_ := Am ((gE hg : w.heap.size ≤ gb452)); have n4_ := Am ((gE hg : w.heap.size ≤ gb452)); have n5_ := Am (nL hg BK451); have n6_ := Am (nG hg BK451); clear BK451; clear HB; have BK451 := n0_; have HB := n1_; have BK452 := n2_; have GW452 := n3_; have GE452 := n4_; have NB451_452 := n5_; have NB452_451 := n6_; clear n0_ n1_ n2_ n3_ n4_ n5_ n6_; clear hb hbox hg; have hnb12 := NB451_452.out; have hnc12 := NB452_451.out; have hcz13_0 := cz0 BK451.out; have hcz13_1 := cz1 BK451.out; have hfz13_0 := fz BK451 0; have hfz13_1 := fz BK451 1))
   go_ret
   exact ⟨xq, bs⟩
  ·
   rw [if_neg c9] at H
   have c9b0 : decide (63 < a0_0) = false := decide_eq_false c9
   clear c9
   obtain ⟨t453, A140, H⟩ := Option.bind_eq_some_iff.mp H
   replace H : (some t453) = some r := H
   have A14 := Am A140
   clear A140
   obtain rfl := Option.some.inj H
   go_enter Try.func53, Try.ntmps53
   go_wp2_with (first | ((with_reducible refine gate_dst (N := 3) rfl ?_); refine bxe (N := 3) (cs := #[.int .i64 a0_0, .slice A0_1 l0_1.length c0_1]) (t := 66) ?_; intro gb451 hg w15 hbox hb; have n0_ := Am (below_step (bl) hb); have n1_ := Am (hbox); have n2_ := Am ((gE hg : w.heap.size ≤ gb451)); have n3_ := Am ((gE hg : w.heap.size ≤ gb451)); clear HB; have HB := n0_; have BK451 := n1_; have GW451 := n2_; have GE451 := n3_; clear n0_ n1_ n2_ n3_; clear hb hbox hg) | ((with_reducible refine gate_dst (N := 4) rfl ?_); refine bxe (N := 4) (cs := #[.slice A1_0 l1_0.length c1_0, .slice A1_1 l1_1.length c1_1, .slice A1_2 l1_2.length c1_2, .slice A1_3 l1_3.length c1_3]) (t := 26) ?_; intro gb452 hg w16 hbox hb; have n0_ := Am (blk_below (kB BK451) hb); have n1_ := Am (below_step (bs) hb); have n2_ := Am (hbox); have n3_ := Am ((gE hg : w.heap.size ≤ gb452)); have n4_ := Am ((gE hg : w.heap.size ≤ gb452)); have n5_ := Am (nL hg BK451); have n6_ := Am (nG hg BK451); clear BK451; clear HB; have BK451 := n0_; have HB := n1_; have BK452 := n2_; have GW452 := n3_; have GE452 := n4_; have NB451_452 := n5_; have NB452_451 := n6_; clear n0_ n1_ n2_ n3_ n4_ n5_ n6_; clear hb hbox hg; have hnb17 := NB451_452.out; have hnc17 := NB452_451.out; have hcz18_0 := cz0 BK451.out; have hcz18_1 := cz1 BK451.out; have hfz18_0 := fz BK451 0; have hfz18_1 := fz BK451 1; have hcz19_0 := cz0 BK452.out; have hcz19_1 := cz1 BK452.out; have hcz19_2 := cz2 BK452.out; have hcz19_3 := cz3 BK452.out; have hfz19_0 := fz BK452 0; have hfz19_1 := fz BK452 1; have hfz19_2 := fz BK452 2; have hfz19_3 := fz BK452 3) | ((with_reducible refine gate_callee (f := 61) rfl ?_); refine goesL_ (some 21) rfl rfl Try.func61 (by kernel_rfl) rfl #[.slice A0_1 l0_1.length c0_1, .int .i64 (l1_1.length : Int), .int .i64 a2] rfl aq ?_; (with_reducible refine (surmiseref05_code.calls k _ _ l0_1 (l1_1.length : Int) a2 t453 _ ?side1 ?side2 A14.out).mono ?_); (case side1 => exact kC HR0_1); (case side2 => exact HC0_1.out); rintro e w20 ⟨rfl, hb⟩; refine ⟨_, rfl, ?_⟩; have n0_ := Am (blk_below (kB BK451) hb); have n1_ := Am (blk_below (kB BK452) hb); have n2_ := Am (below_step (bs) hb); clear BK451; clear BK452; clear HB; have BK451 := n0_; have BK452 := n1_; have HB := n2_; clear n0_ n1_ n2_; (try clear hb); (try clear hb2); (try clear hk); (try clear hi)))
   go_ret
   exact ⟨xq, bs⟩

end Go.Proofs.Ytdfhbmallnegfaa.PA
