-- Written by a program (wip/tools/gprint.py: a patched copy of the kit's print) and by hand, for this claim
import Derived.Test.YthhnecbfcpmpbaaPAx0
import Derived.Test.YthhnecbfcpmpbaaPAx2
import Derived.Test.YthhnecbfcpmpbaaPAx3
namespace Go.Proofs.Ythhnecbfcpmpbaa.PA
open Go.RowKit Go.Proofs.YthhnecbfcpmpbaaW.PrintWords Go.Proofs.YthhnecbfcpmpbaaW.PrintLast Go.Proofs.YthhnecbfcpmpbaaW.PrintMore
attribute [local go_sem] max2_int min2_int max_two min_two max_three min_three max_four min_four   -- for this text's walks alone
set_option linter.unusedVariables false
set_option linter.unusedSimpArgs false

/-! ### expr_two_mul: function 35 -/
def expr_two_mul.j0 : Nat → Bool → Int → Int → Option (Int × Bool)
 | 0, _, _, _ => none
 | k + 1, x11, x120000, x120001 => if x11 = true then (some (0, true)) else (if (mx x120001 (wrap64 (-x120001))) = 0 then (none) else (if (mx x120000 (wrap64 (-x120000))) > (wrap64 (Int.tdiv (1099511627776 : Int) (mx x120001 (wrap64 (-x120001))))) then (some (0, false)) else (some (wrap64 (x120000 * x120001), true))))
def expr_two_mul.f (k : Nat) (a0_0 : Int) (a0_1 : Int) : Option (Int × Bool) := if a0_0 = 0 then (expr_two_mul.j0 k true a0_0 a0_1) else (expr_two_mul.j0 k (a0_1 == 0) a0_0 a0_1)
theorem expr_two_mul.mono_l : ∀ k, (∀ y0 y1 y2, LeO (expr_two_mul.j0 k y0 y1 y2) (expr_two_mul.j0 (k + 1) y0 y1 y2))
 | 0 => fun _ _ _ r h => by simp [expr_two_mul.j0] at h
 | k + 1 => by
  have ih0 := expr_two_mul.mono_l k
  ·
   intro y0 y1 y2
   unfold expr_two_mul.j0
   repeat' first
   | (with_reducible exact ih0 _ _ _)
   | (with_reducible exact LeO.refl _)
   | (with_reducible exact LeO.none _)
   | (with_reducible refine LeO.ite ?_ ?_)
   | (with_reducible refine LeO.bind ?_ (fun _ => ?_))
   | exact ih0 _ _ _
   | exact LeO.none _
   | refine LeO.ite ?_ ?_
   | refine LeO.bind ?_ (fun _ => ?_)
theorem expr_two_mul.mono : ∀ a0 a1 k, LeO (expr_two_mul.f k a0 a1) (expr_two_mul.f (k + 1) a0 a1) := by
 intro a0 a1 k
 have ih0 := expr_two_mul.mono_l k
 unfold expr_two_mul.f
 repeat' first
   | (with_reducible exact ih0 _ _ _)
   | (with_reducible exact LeO.refl _)
   | (with_reducible exact LeO.none _)
   | (with_reducible refine LeO.ite ?_ ?_)
   | (with_reducible refine LeO.bind ?_ (fun _ => ?_))
   | exact ih0 _ _ _
   | exact LeO.none _
   | refine LeO.ite ?_ ?_
   | refine LeO.bind ?_ (fun _ => ?_)
set_option maxHeartbeats 8000000 in
set_option maxRecDepth 100000 in
theorem expr_two_mul.calls (k : Nat) (a0_0 : Int) (a0_1 : Int) (r1 : Int) (r2 : Bool) (w : World) (h : expr_two_mul.f k a0_0 a0_1 = some (r1, r2)) :
  Calls Try.prog 35 #[.agg #[.int .i64 a0_0, .int .i64 a0_1]] w fun e w' => e = .returned (.tuple #[.int .i64 r1, .bool r2]) ∧ Below w.heap.size w w' := by
 have hu59 := Try.underlying59
 have HB := Am (Below.refl w.heap.size w)
 have H : (if a0_0 = 0 then (expr_two_mul.j0 k true a0_0 a0_1) else (expr_two_mul.j0 k (a0_1 == 0) a0_0 a0_1)) = some (r1, r2) := h
 clear h
 have HC2 := Am H
 clear H
 go_enter Try.func35, Try.ntmps35
 go_upto_region 1 with (first | ((with_reducible refine gate_dst (N := 1) rfl ?_); refine box_event ?hg (N := 1) ?hd (cs := #[.int .i64 a0_0, .int .i64 a0_1]) (t := 59) ?hr ?_; (case hd => rfl); (case hg => rfl); (case hr => first | (go_simp; done) | (go_simp; rfl)); intro gb119 hg w3 hbox hb; have n0_ := Am (below_step (bl) hb); have n1_ := Am (hbox); have n2_ := Am ((by rw [hg]; exact (below_size (bl)) : w.heap.size ≤ gb119)); have n3_ := Am ((by rw [hg]; exact (below_size (bl)) : w.heap.size ≤ gb119)); clear HB; have HB := n0_; have BK119 := n1_; have GW119 := n2_; have GE119 := n3_; clear n0_ n1_ n2_ n3_; clear hb hbox hg))
 repeat (go_quiet (first | ((with_reducible refine gate_dst (N := 1) rfl ?_); refine box_event ?hg (N := 1) ?hd (cs := #[.int .i64 a0_0, .int .i64 a0_1]) (t := 59) ?hr ?_; (case hd => rfl); (case hg => rfl); (case hr => first | (go_simp; done) | (go_simp; rfl)); intro gb119 hg w3 hbox hb; have n0_ := Am (below_step (bl) hb); have n1_ := Am (hbox); have n2_ := Am ((by rw [hg]; exact (below_size (bl)) : w.heap.size ≤ gb119)); have n3_ := Am ((by rw [hg]; exact (below_size (bl)) : w.heap.size ≤ gb119)); clear HB; have HB := n0_; have BK119 := n1_; have GW119 := n2_; have GE119 := n3_; clear n0_ n1_ n2_ n3_; clear hb hbox hg)); go_upto_region 1 with (first | ((with_reducible refine gate_dst (N := 1) rfl ?_); refine box_event ?hg (N := 1) ?hd (cs := #[.int .i64 a0_0, .int .i64 a0_1]) (t := 59) ?hr ?_; (case hd => rfl); (case hg => rfl); (case hr => first | (go_simp; done) | (go_simp; rfl)); intro gb119 hg w3 hbox hb; have n0_ := Am (below_step (bl) hb); have n1_ := Am (hbox); have n2_ := Am ((by rw [hg]; exact (below_size (bl)) : w.heap.size ≤ gb119)); have n3_ := Am ((by rw [hg]; exact (below_size (bl)) : w.heap.size ≤ gb119)); clear HB; have HB := n0_; have BK119 := n1_; have GW119 := n2_; have GE119 := n3_; clear n0_ n1_ n2_ n3_; clear hb hbox hg)))
 (try simp only [Act.put, List.setIfInBounds_toArray, List.set_cons_zero, List.set_cons_succ])
 go_cut [11] (fun v11 wc => ∃ (kq : Nat) (x11_1 : Bool), v11 = .bool x11_1 ∧ Aside0 (expr_two_mul.j0 kq x11_1 a0_0 a0_1 = some (r1, r2)) ∧ Aside0 (kq ≤ k) ∧ Aside0 (wc.heap[gb119]? = some (.cells #[.int .i64 a0_0, .int .i64 a0_1] 59 (0, 0))) ∧ Aside0 (Below w.heap.size w wc))
 case first =>
  have H := HC2.out
  clear HC2
  by_cases c4 : a0_0 = 0
  ·
   rw [if_pos c4] at H
   have c4b0 : (a0_0 == 0) = true := beq_iff_eq.mpr c4
   have c4b1 : (a0_0 != 0) = false := bne_eq_false_iff_eq.mpr c4
   clear c4
   (first | rw [c4b0] | (simp only [i64_w, i32_w]; rw [c4b0]) | skip)
   have H' := Am H
   clear H
   have hcz5_0 : w3.cell? ⟨gb119, 0, none⟩ = some (.int .i64 a0_0) := (blk_cell BK119.out 0).trans rfl
   have hcz5_1 : w3.cell? ⟨gb119, 1, none⟩ = some (.int .i64 a0_1) := (blk_cell BK119.out 1).trans rfl
   have hfz5_0 := blk_frozen BK119.out 0
   have hfz5_1 := blk_frozen BK119.out 1
   go_wp2
   repeat (go_quiet (fail); try go_wp2)
   go_meet
   case rel => exact ⟨_, (true), rq, H', ⟨by first | omega | exact Nat.le_refl _⟩, ⟨kB BK119⟩, ⟨by repeat (first | (with_reducible first | exact HB.out | apply below_alloc | apply pw_below_drewN | apply below_drew1 | refine below_set ?_ GE119.out) | exact HB.out)⟩⟩
  ·
   rw [if_neg c4] at H
   have c4b0 : (a0_0 == 0) = false := beq_eq_false_iff_ne.mpr c4
   have c4b1 : (a0_0 != 0) = true := bne_iff_ne.mpr c4
   (first | rw [c4b0] | (simp only [i64_w, i32_w]; rw [c4b0]) | skip)
   have H' := Am H
   clear H
   have hcz6_0 : w3.cell? ⟨gb119, 0, none⟩ = some (.int .i64 a0_0) := (blk_cell BK119.out 0).trans rfl
   have hcz6_1 : w3.cell? ⟨gb119, 1, none⟩ = some (.int .i64 a0_1) := (blk_cell BK119.out 1).trans rfl
   have hfz6_0 := blk_frozen BK119.out 0
   have hfz6_1 := blk_frozen BK119.out 1
   go_wp2
   repeat (go_quiet (fail); try go_wp2)
   go_meet
   case rel => exact ⟨_, ((a0_1 == 0)), rq, H', ⟨by first | omega | exact Nat.le_refl _⟩, ⟨kB BK119⟩, ⟨by repeat (first | (with_reducible first | exact HB.out | apply below_alloc | apply pw_below_drewN | apply below_drew1 | refine below_set ?_ GE119.out) | exact HB.out)⟩⟩
 case rest =>
  clear HC2
  try clear p2
  try clear c3
  try clear c4
  try clear c4b0
  try clear c4b1
  try clear hcz5_0
  try clear hcz5_1
  try clear hcz6_0
  try clear hcz6_1
  try clear hfz5_0
  try clear hfz5_1
  try clear hfz6_0
  try clear hfz6_1
  obtain ⟨kq, x11_1, rfl, HA, HJ1, BK119, HB⟩ := hcut
  cases kq with
  | zero => exact absurd HA.out (by simp [expr_two_mul.j0])
  | succ kj1 =>
   have H := HA.out
   clear HA
   simp only [expr_two_mul.j0] at H
   by_cases c7 : x11_1 = true
   ·
    subst c7
    have H1 : (some (0, true)) = some (r1, r2) := by rw [if_pos rfl] at H; exact H
    clear H
    have H := H1
    clear H1
    simp only [Option.some.injEq, Prod.mk.injEq] at H
    obtain ⟨rfl, rfl⟩ := H
    go_wp2
    repeat (go_quiet (fail); try go_wp2)
    go_ret2
    exact ⟨xq, by repeat (first | (with_reducible first | exact HB.out | apply below_alloc | apply pw_below_drewN | apply below_drew1 | refine below_set ?_ GE119.out) | exact HB.out)⟩
   ·
    replace c7 := Bool.eq_false_iff.mpr c7
    subst c7
    have H1 : (if (mx a0_1 (wrap64 (-a0_1))) = 0 then (none) else (if (mx a0_0 (wrap64 (-a0_0))) > (wrap64 (Int.tdiv (1099511627776 : Int) (mx a0_1 (wrap64 (-a0_1))))) then (some (0, false)) else (some (wrap64 (a0_0 * a0_1), true)))) = some (r1, r2) := by rw [if_neg (show ¬ (false = true) by decide)] at H; exact H
    clear H
    have H := H1
    clear H1
    obtain ⟨ji8, hji8⟩ : ∃ j_ : Int, (mx a0_0 (wrap64 (-a0_0))) = j_ := ⟨_, rfl⟩
    replace H : (if (mx a0_1 (wrap64 (-a0_1))) = 0 then (none) else (if (ji8) > (wrap64 (Int.tdiv (1099511627776 : Int) (mx a0_1 (wrap64 (-a0_1))))) then (some (0, false)) else (some (wrap64 (a0_0 * a0_1), true)))) = some (r1, r2) := by first | (rw [hji8] at H; exact H) | (simp only [hji8] at H ⊢; exact H)
    have hji8_ : (if a0_0 < (wrap64 (-a0_0)) then (wrap64 (-a0_0)) else a0_0) = ji8 := hji8
    obtain ⟨ji9, hji9⟩ : ∃ j_ : Int, (mx a0_1 (wrap64 (-a0_1))) = j_ := ⟨_, rfl⟩
    replace H : (if (ji9) = 0 then (none) else (if (ji8) > (wrap64 (Int.tdiv (1099511627776 : Int) (ji9))) then (some (0, false)) else (some (wrap64 (a0_0 * a0_1), true)))) = some (r1, r2) := by first | (rw [hji9] at H; exact H) | (simp only [hji9] at H ⊢; exact H)
    have hji9_ : (if a0_1 < (wrap64 (-a0_1)) then (wrap64 (-a0_1)) else a0_1) = ji9 := hji9
    by_cases c10 : (ji9) = 0
    ·
     rw [if_pos c10] at H
     exact absurd H (by simp)
    ·
     rw [if_neg c10] at H
     have c10b0 : ((ji9) == 0) = false := beq_eq_false_iff_ne.mpr c10
     have c10b1 : ((ji9) != 0) = true := bne_iff_ne.mpr c10
     by_cases c11 : (ji8) > (wrap64 (Int.tdiv (1099511627776 : Int) (ji9)))
     ·
      rw [if_pos c11] at H
      have c11b0 : decide ((wrap64 (Int.tdiv (1099511627776 : Int) (ji9))) < (ji8)) = true := decide_eq_true c11
      clear c11
      simp only [Option.some.injEq, Prod.mk.injEq] at H
      obtain ⟨rfl, rfl⟩ := H
      have hcz12_0 : wc.cell? ⟨gb119, 0, none⟩ = some (.int .i64 a0_0) := (blk_cell BK119.out 0).trans rfl
      have hcz12_1 : wc.cell? ⟨gb119, 1, none⟩ = some (.int .i64 a0_1) := (blk_cell BK119.out 1).trans rfl
      have hfz12_0 := blk_frozen BK119.out 0
      have hfz12_1 := blk_frozen BK119.out 1
      go_wp2
      repeat (go_quiet (fail); try go_wp2)
      go_ret2
      exact ⟨by first | rfl | (simp [errW_none, errW_some] <;> rfl) | (simp only [← hji8, ← hji9]; first | rfl | (simp [errW_none, errW_some] <;> rfl)) | (simp [*, errW_none, errW_some] <;> rfl), by repeat (first | (with_reducible first | exact HB.out | apply below_alloc | apply pw_below_drewN | apply below_drew1 | refine below_set ?_ GE119.out) | exact HB.out)⟩
     ·
      rw [if_neg c11] at H
      have c11b0 : decide ((wrap64 (Int.tdiv (1099511627776 : Int) (ji9))) < (ji8)) = false := decide_eq_false c11
      clear c11
      simp only [Option.some.injEq, Prod.mk.injEq] at H
      obtain ⟨rfl, rfl⟩ := H
      have hcz13_0 : wc.cell? ⟨gb119, 0, none⟩ = some (.int .i64 a0_0) := (blk_cell BK119.out 0).trans rfl
      have hcz13_1 : wc.cell? ⟨gb119, 1, none⟩ = some (.int .i64 a0_1) := (blk_cell BK119.out 1).trans rfl
      have hfz13_0 := blk_frozen BK119.out 0
      have hfz13_1 := blk_frozen BK119.out 1
      go_wp2
      repeat (go_quiet (fail); try go_wp2)
      go_ret2
      exact ⟨by first | rfl | (simp [errW_none, errW_some] <;> rfl) | (simp only [← hji8, ← hji9]; first | rfl | (simp [errW_none, errW_some] <;> rfl)) | (simp [*, errW_none, errW_some] <;> rfl), by repeat (first | (with_reducible first | exact HB.out | apply below_alloc | apply pw_below_drewN | apply below_drew1 | refine below_set ?_ GE119.out) | exact HB.out)⟩

/-! ### expr_two_does: function 32 -/
def expr_two_does.f (k : Nat) (a0_0 : Int) (a0_1 : Int) (a1 : Int) : Option (Int × Bool) := if a1 = 6 then ((expr_value.f (wrap64 (a0_0 + a0_1))).bind fun t121 => (some (wrap64 (a0_0 + a0_1), t121))) else (if a1 = 7 then ((expr_value.f (wrap64 (a0_0 - a0_1))).bind fun t122 => (some (wrap64 (a0_0 - a0_1), t122))) else (if a1 = 8 then ((expr_two_mul.f k a0_0 a0_1).bind fun bt123 => (some (bt123.1, bt123.2))) else (if a1 = 9 then ((expr_value.f (mn a0_0 a0_1)).bind fun t125 => (some (mn a0_0 a0_1, t125))) else (if a1 = 10 then ((expr_value.f (mx a0_0 a0_1)).bind fun t126 => (some (mx a0_0 a0_1, t126))) else (if a1 = 11 then ((expr_truth.f (decide (a0_0 < a0_1))).bind fun t127 => ((expr_value.f t127).bind fun t128 => (some (t127, t128)))) else (if a1 = 12 then ((expr_truth.f (decide (a0_0 ≤ a0_1))).bind fun t129 => ((expr_value.f t129).bind fun t130 => (some (t129, t130)))) else (if a1 = 13 then ((expr_truth.f (a0_0 == a0_1)).bind fun t131 => ((expr_value.f t131).bind fun t132 => (some (t131, t132)))) else (if a1 = 14 then (if a0_0 = 0 then ((expr_truth.f false).bind fun t133 => ((expr_value.f t133).bind fun t134 => (some (t133, t134)))) else ((expr_truth.f (a0_1 != 0)).bind fun t135 => ((expr_value.f t135).bind fun t136 => (some (t135, t136))))) else (if a1 = 15 then (if a0_0 = 0 then ((expr_truth.f (a0_1 != 0)).bind fun t137 => ((expr_value.f t137).bind fun t138 => (some (t137, t138)))) else ((expr_truth.f true).bind fun t139 => ((expr_value.f t139).bind fun t140 => (some (t139, t140))))) else ((expr_value.f 0).bind fun t141 => (some (0, t141))))))))))))
theorem expr_two_does.mono : ∀ a0 a1 a2 k, LeO (expr_two_does.f k a0 a1 a2) (expr_two_does.f (k + 1) a0 a1 a2) := by
 intro a0 a1 a2 k
 unfold expr_two_does.f
 repeat' first
   | (with_reducible exact expr_two_mul.mono _ _ _)
   | (with_reducible exact LeO.refl _)
   | (with_reducible exact LeO.none _)
   | (with_reducible refine LeO.ite ?_ ?_)
   | (with_reducible refine LeO.bind ?_ (fun _ => ?_))
   | exact expr_two_mul.mono _ _ _
   | exact LeO.none _
   | refine LeO.ite ?_ ?_
   | refine LeO.bind ?_ (fun _ => ?_)
set_option maxHeartbeats 8000000 in
set_option maxRecDepth 100000 in
theorem expr_two_does.calls (k : Nat) (a0_0 : Int) (a0_1 : Int) (a1 : Int) (r1 : Int) (r2 : Bool) (w : World) (h : expr_two_does.f k a0_0 a0_1 a1 = some (r1, r2)) :
  Calls Try.prog 32 #[.agg #[.int .i64 a0_0, .int .i64 a0_1], .int .i64 a1] w fun e w' => e = .returned (.tuple #[.int .i64 r1, .bool r2]) ∧ Below w.heap.size w w' := by
 have hu59 := Try.underlying59
 have HB := Am (Below.refl w.heap.size w)
 have H : (if a1 = 6 then ((expr_value.f (wrap64 (a0_0 + a0_1))).bind fun t121 => (some (wrap64 (a0_0 + a0_1), t121))) else (if a1 = 7 then ((expr_value.f (wrap64 (a0_0 - a0_1))).bind fun t122 => (some (wrap64 (a0_0 - a0_1), t122))) else (if a1 = 8 then ((expr_two_mul.f k a0_0 a0_1).bind fun bt123 => (some (bt123.1, bt123.2))) else (if a1 = 9 then ((expr_value.f (mn a0_0 a0_1)).bind fun t125 => (some (mn a0_0 a0_1, t125))) else (if a1 = 10 then ((expr_value.f (mx a0_0 a0_1)).bind fun t126 => (some (mx a0_0 a0_1, t126))) else (if a1 = 11 then ((expr_truth.f (decide (a0_0 < a0_1))).bind fun t127 => ((expr_value.f t127).bind fun t128 => (some (t127, t128)))) else (if a1 = 12 then ((expr_truth.f (decide (a0_0 ≤ a0_1))).bind fun t129 => ((expr_value.f t129).bind fun t130 => (some (t129, t130)))) else (if a1 = 13 then ((expr_truth.f (a0_0 == a0_1)).bind fun t131 => ((expr_value.f t131).bind fun t132 => (some (t131, t132)))) else (if a1 = 14 then (if a0_0 = 0 then ((expr_truth.f false).bind fun t133 => ((expr_value.f t133).bind fun t134 => (some (t133, t134)))) else ((expr_truth.f (a0_1 != 0)).bind fun t135 => ((expr_value.f t135).bind fun t136 => (some (t135, t136))))) else (if a1 = 15 then (if a0_0 = 0 then ((expr_truth.f (a0_1 != 0)).bind fun t137 => ((expr_value.f t137).bind fun t138 => (some (t137, t138)))) else ((expr_truth.f true).bind fun t139 => ((expr_value.f t139).bind fun t140 => (some (t139, t140))))) else ((expr_value.f 0).bind fun t141 => (some (0, t141))))))))))))) = some (r1, r2) := h
 clear h
 by_cases c3 : a1 = 6
 ·
  rw [if_pos c3] at H
  have c3b0 : (a1 == 6) = true := beq_iff_eq.mpr c3
  have c3b1 : (a1 != 6) = false := bne_eq_false_iff_eq.mpr c3
  clear c3
  replace H := Option.bind_eq_some_iff.mp H
  obtain ⟨t121, A40, H⟩ := H
  replace H : (some (wrap64 (a0_0 + a0_1), t121)) = some (r1, r2) := H
  have A4 := Am A40
  clear A40
  simp only [Option.some.injEq, Prod.mk.injEq] at H
  obtain ⟨rfl, rfl⟩ := H
  go_enter Try.func32, Try.ntmps32
  go_wp2_with (first | ((with_reducible refine gate_dst (N := 2) rfl ?_); refine box_event ?hg (N := 2) ?hd (cs := #[.int .i64 a0_0, .int .i64 a0_1]) (t := 59) ?hr ?_; (case hd => rfl); (case hg => rfl); (case hr => first | (go_simp; done) | (go_simp; rfl)); intro gb120 hg w5 hbox hb; have n0_ := Am (below_step (bl) hb); have n1_ := Am (hbox); have n2_ := Am ((by rw [hg]; exact (below_size (bl)) : w.heap.size ≤ gb120)); have n3_ := Am ((by rw [hg]; exact (below_size (bl)) : w.heap.size ≤ gb120)); clear HB; have HB := n0_; have BK120 := n1_; have GW120 := n2_; have GE120 := n3_; clear n0_ n1_ n2_ n3_; clear hb hbox hg; have hcz6_0 : w5.cell? ⟨gb120, 0, none⟩ = some (.int .i64 a0_0) := (blk_cell BK120.out 0).trans rfl; have hcz6_1 : w5.cell? ⟨gb120, 1, none⟩ = some (.int .i64 a0_1) := (blk_cell BK120.out 1).trans rfl; have hfz6_0 := blk_frozen BK120.out 0; have hfz6_1 := blk_frozen BK120.out 1) | ((with_reducible refine gate_callee (f := 30) rfl ?_); refine goesL_ (some 90) rfl rfl Try.func30 (by kernel_rfl) rfl #[.int .i64 (wrap64 (a0_0 + a0_1))] rfl aq ?_; (with_reducible refine (expr_value.calls (wrap64 (a0_0 + a0_1)) t121 _ A4.out).mono ?_); rintro e w' ⟨rfl, ⟨nd, rfl⟩⟩; refine ⟨_, rfl, ?_⟩))
  go_ret2
  exact ⟨xq, by repeat (first | (with_reducible first | exact HB.out | apply below_alloc | apply pw_below_drewN | apply below_drew1 | refine below_set ?_ GE120.out) | exact HB.out)⟩
 ·
  rw [if_neg c3] at H
  have c3b0 : (a1 == 6) = false := beq_eq_false_iff_ne.mpr c3
  have c3b1 : (a1 != 6) = true := bne_iff_ne.mpr c3
  by_cases c7 : a1 = 7
  ·
   rw [if_pos c7] at H
   have c7b0 : (a1 == 7) = true := beq_iff_eq.mpr c7
   have c7b1 : (a1 != 7) = false := bne_eq_false_iff_eq.mpr c7
   clear c7
   replace H := Option.bind_eq_some_iff.mp H
   obtain ⟨t122, A80, H⟩ := H
   replace H : (some (wrap64 (a0_0 - a0_1), t122)) = some (r1, r2) := H
   have A8 := Am A80
   clear A80
   simp only [Option.some.injEq, Prod.mk.injEq] at H
   obtain ⟨rfl, rfl⟩ := H
   go_enter Try.func32, Try.ntmps32
   go_wp2_with (first | ((with_reducible refine gate_dst (N := 2) rfl ?_); refine box_event ?hg (N := 2) ?hd (cs := #[.int .i64 a0_0, .int .i64 a0_1]) (t := 59) ?hr ?_; (case hd => rfl); (case hg => rfl); (case hr => first | (go_simp; done) | (go_simp; rfl)); intro gb120 hg w9 hbox hb; have n0_ := Am (below_step (bl) hb); have n1_ := Am (hbox); have n2_ := Am ((by rw [hg]; exact (below_size (bl)) : w.heap.size ≤ gb120)); have n3_ := Am ((by rw [hg]; exact (below_size (bl)) : w.heap.size ≤ gb120)); clear HB; have HB := n0_; have BK120 := n1_; have GW120 := n2_; have GE120 := n3_; clear n0_ n1_ n2_ n3_; clear hb hbox hg; have hcz10_0 : w9.cell? ⟨gb120, 0, none⟩ = some (.int .i64 a0_0) := (blk_cell BK120.out 0).trans rfl; have hcz10_1 : w9.cell? ⟨gb120, 1, none⟩ = some (.int .i64 a0_1) := (blk_cell BK120.out 1).trans rfl; have hfz10_0 := blk_frozen BK120.out 0; have hfz10_1 := blk_frozen BK120.out 1) | ((with_reducible refine gate_callee (f := 30) rfl ?_); refine goesL_ (some 90) rfl rfl Try.func30 (by kernel_rfl) rfl #[.int .i64 (wrap64 (a0_0 - a0_1))] rfl aq ?_; (with_reducible refine (expr_value.calls (wrap64 (a0_0 - a0_1)) t122 _ A8.out).mono ?_); rintro e w' ⟨rfl, ⟨nd, rfl⟩⟩; refine ⟨_, rfl, ?_⟩))
   go_ret2
   exact ⟨xq, by repeat (first | (with_reducible first | exact HB.out | apply below_alloc | apply pw_below_drewN | apply below_drew1 | refine below_set ?_ GE120.out) | exact HB.out)⟩
  ·
   rw [if_neg c7] at H
   have c7b0 : (a1 == 7) = false := beq_eq_false_iff_ne.mpr c7
   have c7b1 : (a1 != 7) = true := bne_iff_ne.mpr c7
   by_cases c11 : a1 = 8
   ·
    rw [if_pos c11] at H
    have c11b0 : (a1 == 8) = true := beq_iff_eq.mpr c11
    have c11b1 : (a1 != 8) = false := bne_eq_false_iff_eq.mpr c11
    clear c11
    replace H := Option.bind_eq_some_iff.mp H
    obtain ⟨⟨t123, t124⟩, A120, H⟩ := H
    replace H : (some (t123, t124)) = some (r1, r2) := H
    have A12 := Am A120
    clear A120
    simp only [Option.some.injEq, Prod.mk.injEq] at H
    obtain ⟨rfl, rfl⟩ := H
    go_enter Try.func32, Try.ntmps32
    go_wp2_with (first | ((with_reducible refine gate_dst (N := 2) rfl ?_); refine box_event ?hg (N := 2) ?hd (cs := #[.int .i64 a0_0, .int .i64 a0_1]) (t := 59) ?hr ?_; (case hd => rfl); (case hg => rfl); (case hr => first | (go_simp; done) | (go_simp; rfl)); intro gb120 hg w13 hbox hb; have n0_ := Am (below_step (bl) hb); have n1_ := Am (hbox); have n2_ := Am ((by rw [hg]; exact (below_size (bl)) : w.heap.size ≤ gb120)); have n3_ := Am ((by rw [hg]; exact (below_size (bl)) : w.heap.size ≤ gb120)); clear HB; have HB := n0_; have BK120 := n1_; have GW120 := n2_; have GE120 := n3_; clear n0_ n1_ n2_ n3_; clear hb hbox hg; have hcz14_0 : w13.cell? ⟨gb120, 0, none⟩ = some (.int .i64 a0_0) := (blk_cell BK120.out 0).trans rfl; have hcz14_1 : w13.cell? ⟨gb120, 1, none⟩ = some (.int .i64 a0_1) := (blk_cell BK120.out 1).trans rfl; have hfz14_0 := blk_frozen BK120.out 0; have hfz14_1 := blk_frozen BK120.out 1) | ((with_reducible refine gate_callee (f := 35) rfl ?_); refine goesL_ (some 25) rfl rfl Try.func35 (by kernel_rfl) rfl #[.agg #[.int .i64 a0_0, .int .i64 a0_1]] rfl aq ?_; (with_reducible refine (expr_two_mul.calls k a0_0 a0_1 t123 t124 _ A12.out).mono ?_); rintro e w15 ⟨rfl, hb⟩; refine ⟨_, rfl, ?_⟩; have n0_ := Am (blk_below (g := gb120) (o := .cells #[.int .i64 a0_0, .int .i64 a0_1] 59 (0, 0)) (kB BK120) hb); have n1_ := Am (below_step (by repeat (first | (with_reducible first | exact HB.out | apply below_alloc | apply pw_below_drewN | apply below_drew1 | refine below_set ?_ GE120.out) | exact HB.out)) hb); clear BK120; clear HB; have BK120 := n0_; have HB := n1_; clear n0_ n1_; (try clear hb); (try clear hb2); (try clear hk); (try clear hi)))
    go_ret2
    exact ⟨xq, by repeat (first | (with_reducible first | exact HB.out | apply below_alloc | apply pw_below_drewN | apply below_drew1 | refine below_set ?_ GE120.out) | exact HB.out)⟩
   ·
    rw [if_neg c11] at H
    have c11b0 : (a1 == 8) = false := beq_eq_false_iff_ne.mpr c11
    have c11b1 : (a1 != 8) = true := bne_iff_ne.mpr c11
    by_cases c16 : a1 = 9
    ·
     rw [if_pos c16] at H
     have c16b0 : (a1 == 9) = true := beq_iff_eq.mpr c16
     have c16b1 : (a1 != 9) = false := bne_eq_false_iff_eq.mpr c16
     clear c16
     obtain ⟨ji17, hji17⟩ : ∃ j_ : Int, (mn a0_0 a0_1) = j_ := ⟨_, rfl⟩
     replace H : ((expr_value.f (ji17)).bind fun t125 => (some (ji17, t125))) = some (r1, r2) := by first | (rw [hji17] at H; exact H) | (simp only [hji17] at H ⊢; exact H)
     have hji17_ : (if a0_1 < a0_0 then a0_1 else a0_0) = ji17 := hji17
     replace H := Option.bind_eq_some_iff.mp H
     obtain ⟨t125, A180, H⟩ := H
     replace H : (some (ji17, t125)) = some (r1, r2) := H
     have A18 := Am A180
     clear A180
     simp only [Option.some.injEq, Prod.mk.injEq] at H
     obtain ⟨rfl, rfl⟩ := H
     go_enter Try.func32, Try.ntmps32
     go_wp2_with (first | ((with_reducible refine gate_dst (N := 2) rfl ?_); refine box_event ?hg (N := 2) ?hd (cs := #[.int .i64 a0_0, .int .i64 a0_1]) (t := 59) ?hr ?_; (case hd => rfl); (case hg => rfl); (case hr => first | (go_simp; done) | (go_simp; rfl)); intro gb120 hg w19 hbox hb; have n0_ := Am (below_step (bl) hb); have n1_ := Am (hbox); have n2_ := Am ((by rw [hg]; exact (below_size (bl)) : w.heap.size ≤ gb120)); have n3_ := Am ((by rw [hg]; exact (below_size (bl)) : w.heap.size ≤ gb120)); clear HB; have HB := n0_; have BK120 := n1_; have GW120 := n2_; have GE120 := n3_; clear n0_ n1_ n2_ n3_; clear hb hbox hg; have hcz20_0 : w19.cell? ⟨gb120, 0, none⟩ = some (.int .i64 a0_0) := (blk_cell BK120.out 0).trans rfl; have hcz20_1 : w19.cell? ⟨gb120, 1, none⟩ = some (.int .i64 a0_1) := (blk_cell BK120.out 1).trans rfl; have hfz20_0 := blk_frozen BK120.out 0; have hfz20_1 := blk_frozen BK120.out 1) | ((with_reducible refine gate_callee (f := 30) rfl ?_); refine goesL_ (some 90) rfl rfl Try.func30 (by kernel_rfl) rfl #[.int .i64 ji17] rfl (by (try simp only [List.map_toArray, List.map_cons, List.map_nil]); first | done | (simp only [hji17]; rfl) | rfl | (simp only [List.length_drop, List.length_take]; rfl)) ?_; (with_reducible refine (expr_value.calls ji17 t125 _ A18.out).mono ?_); rintro e w' ⟨rfl, ⟨nd, rfl⟩⟩; refine ⟨_, rfl, ?_⟩))
     go_ret2
     exact ⟨by first | rfl | (simp [errW_none, errW_some] <;> rfl) | (simp only [← hji17]; first | rfl | (simp [errW_none, errW_some] <;> rfl)) | (simp [*, errW_none, errW_some] <;> rfl), by repeat (first | (with_reducible first | exact HB.out | apply below_alloc | apply pw_below_drewN | apply below_drew1 | refine below_set ?_ GE120.out) | exact HB.out)⟩
    ·
     rw [if_neg c16] at H
     have c16b0 : (a1 == 9) = false := beq_eq_false_iff_ne.mpr c16
     have c16b1 : (a1 != 9) = true := bne_iff_ne.mpr c16
     by_cases c21 : a1 = 10
     ·
      rw [if_pos c21] at H
      have c21b0 : (a1 == 10) = true := beq_iff_eq.mpr c21
      have c21b1 : (a1 != 10) = false := bne_eq_false_iff_eq.mpr c21
      clear c21
      obtain ⟨ji22, hji22⟩ : ∃ j_ : Int, (mx a0_0 a0_1) = j_ := ⟨_, rfl⟩
      replace H : ((expr_value.f (ji22)).bind fun t126 => (some (ji22, t126))) = some (r1, r2) := by first | (rw [hji22] at H; exact H) | (simp only [hji22] at H ⊢; exact H)
      have hji22_ : (if a0_0 < a0_1 then a0_1 else a0_0) = ji22 := hji22
      replace H := Option.bind_eq_some_iff.mp H
      obtain ⟨t126, A230, H⟩ := H
      replace H : (some (ji22, t126)) = some (r1, r2) := H
      have A23 := Am A230
      clear A230
      simp only [Option.some.injEq, Prod.mk.injEq] at H
      obtain ⟨rfl, rfl⟩ := H
      go_enter Try.func32, Try.ntmps32
      go_wp2_with (first | ((with_reducible refine gate_dst (N := 2) rfl ?_); refine box_event ?hg (N := 2) ?hd (cs := #[.int .i64 a0_0, .int .i64 a0_1]) (t := 59) ?hr ?_; (case hd => rfl); (case hg => rfl); (case hr => first | (go_simp; done) | (go_simp; rfl)); intro gb120 hg w24 hbox hb; have n0_ := Am (below_step (bl) hb); have n1_ := Am (hbox); have n2_ := Am ((by rw [hg]; exact (below_size (bl)) : w.heap.size ≤ gb120)); have n3_ := Am ((by rw [hg]; exact (below_size (bl)) : w.heap.size ≤ gb120)); clear HB; have HB := n0_; have BK120 := n1_; have GW120 := n2_; have GE120 := n3_; clear n0_ n1_ n2_ n3_; clear hb hbox hg; have hcz25_0 : w24.cell? ⟨gb120, 0, none⟩ = some (.int .i64 a0_0) := (blk_cell BK120.out 0).trans rfl; have hcz25_1 : w24.cell? ⟨gb120, 1, none⟩ = some (.int .i64 a0_1) := (blk_cell BK120.out 1).trans rfl; have hfz25_0 := blk_frozen BK120.out 0; have hfz25_1 := blk_frozen BK120.out 1) | ((with_reducible refine gate_callee (f := 30) rfl ?_); refine goesL_ (some 90) rfl rfl Try.func30 (by kernel_rfl) rfl #[.int .i64 ji22] rfl (by (try simp only [List.map_toArray, List.map_cons, List.map_nil]); first | done | (simp only [hji22]; rfl) | rfl | (simp only [List.length_drop, List.length_take]; rfl)) ?_; (with_reducible refine (expr_value.calls ji22 t126 _ A23.out).mono ?_); rintro e w' ⟨rfl, ⟨nd, rfl⟩⟩; refine ⟨_, rfl, ?_⟩))
      go_ret2
      exact ⟨by first | rfl | (simp [errW_none, errW_some] <;> rfl) | (simp only [← hji22]; first | rfl | (simp [errW_none, errW_some] <;> rfl)) | (simp [*, errW_none, errW_some] <;> rfl), by repeat (first | (with_reducible first | exact HB.out | apply below_alloc | apply pw_below_drewN | apply below_drew1 | refine below_set ?_ GE120.out) | exact HB.out)⟩
     ·
      rw [if_neg c21] at H
      have c21b0 : (a1 == 10) = false := beq_eq_false_iff_ne.mpr c21
      have c21b1 : (a1 != 10) = true := bne_iff_ne.mpr c21
      by_cases c26 : a1 = 11
      ·
       rw [if_pos c26] at H
       have c26b0 : (a1 == 11) = true := beq_iff_eq.mpr c26
       have c26b1 : (a1 != 11) = false := bne_eq_false_iff_eq.mpr c26
       clear c26
       replace H := Option.bind_eq_some_iff.mp H
       obtain ⟨t127, A270, H⟩ := H
       replace H : ((expr_value.f t127).bind fun t128 => (some (t127, t128))) = some (r1, r2) := H
       have A27 := Am A270
       clear A270
       replace H := Option.bind_eq_some_iff.mp H
       obtain ⟨t128, A280, H⟩ := H
       replace H : (some (t127, t128)) = some (r1, r2) := H
       have A28 := Am A280
       clear A280
       simp only [Option.some.injEq, Prod.mk.injEq] at H
       obtain ⟨rfl, rfl⟩ := H
       go_enter Try.func32, Try.ntmps32
       go_wp2_with (first | ((with_reducible refine gate_dst (N := 2) rfl ?_); refine box_event ?hg (N := 2) ?hd (cs := #[.int .i64 a0_0, .int .i64 a0_1]) (t := 59) ?hr ?_; (case hd => rfl); (case hg => rfl); (case hr => first | (go_simp; done) | (go_simp; rfl)); intro gb120 hg w29 hbox hb; have n0_ := Am (below_step (bl) hb); have n1_ := Am (hbox); have n2_ := Am ((by rw [hg]; exact (below_size (bl)) : w.heap.size ≤ gb120)); have n3_ := Am ((by rw [hg]; exact (below_size (bl)) : w.heap.size ≤ gb120)); clear HB; have HB := n0_; have BK120 := n1_; have GW120 := n2_; have GE120 := n3_; clear n0_ n1_ n2_ n3_; clear hb hbox hg; have hcz30_0 : w29.cell? ⟨gb120, 0, none⟩ = some (.int .i64 a0_0) := (blk_cell BK120.out 0).trans rfl; have hcz30_1 : w29.cell? ⟨gb120, 1, none⟩ = some (.int .i64 a0_1) := (blk_cell BK120.out 1).trans rfl; have hfz30_0 := blk_frozen BK120.out 0; have hfz30_1 := blk_frozen BK120.out 1) | ((with_reducible refine gate_callee (f := 31) rfl ?_); refine goesL_ (some 49) rfl rfl Try.func31 (by kernel_rfl) rfl #[.bool (decide (a0_0 < a0_1))] rfl aq ?_; (with_reducible refine (expr_truth.calls (decide (a0_0 < a0_1)) t127 _ A27.out).mono ?_); rintro e w' ⟨rfl, ⟨nd, rfl⟩⟩; refine ⟨_, rfl, ?_⟩) | ((with_reducible refine gate_callee (f := 30) rfl ?_); refine goesL_ (some 90) rfl rfl Try.func30 (by kernel_rfl) rfl #[.int .i64 t127] rfl aq ?_; (with_reducible refine (expr_value.calls t127 t128 _ A28.out).mono ?_); rintro e w' ⟨rfl, ⟨nd, rfl⟩⟩; refine ⟨_, rfl, ?_⟩))
       go_ret2
       exact ⟨xq, by repeat (first | (with_reducible first | exact HB.out | apply below_alloc | apply pw_below_drewN | apply below_drew1 | refine below_set ?_ GE120.out) | exact HB.out)⟩
      ·
       rw [if_neg c26] at H
       have c26b0 : (a1 == 11) = false := beq_eq_false_iff_ne.mpr c26
       have c26b1 : (a1 != 11) = true := bne_iff_ne.mpr c26
       by_cases c31 : a1 = 12
       ·
        rw [if_pos c31] at H
        have c31b0 : (a1 == 12) = true := beq_iff_eq.mpr c31
        have c31b1 : (a1 != 12) = false := bne_eq_false_iff_eq.mpr c31
        clear c31
        replace H := Option.bind_eq_some_iff.mp H
        obtain ⟨t129, A320, H⟩ := H
        replace H : ((expr_value.f t129).bind fun t130 => (some (t129, t130))) = some (r1, r2) := H
        have A32 := Am A320
        clear A320
        replace H := Option.bind_eq_some_iff.mp H
        obtain ⟨t130, A330, H⟩ := H
        replace H : (some (t129, t130)) = some (r1, r2) := H
        have A33 := Am A330
        clear A330
        simp only [Option.some.injEq, Prod.mk.injEq] at H
        obtain ⟨rfl, rfl⟩ := H
        go_enter Try.func32, Try.ntmps32
        go_wp2_with (first | ((with_reducible refine gate_dst (N := 2) rfl ?_); refine box_event ?hg (N := 2) ?hd (cs := #[.int .i64 a0_0, .int .i64 a0_1]) (t := 59) ?hr ?_; (case hd => rfl); (case hg => rfl); (case hr => first | (go_simp; done) | (go_simp; rfl)); intro gb120 hg w34 hbox hb; have n0_ := Am (below_step (bl) hb); have n1_ := Am (hbox); have n2_ := Am ((by rw [hg]; exact (below_size (bl)) : w.heap.size ≤ gb120)); have n3_ := Am ((by rw [hg]; exact (below_size (bl)) : w.heap.size ≤ gb120)); clear HB; have HB := n0_; have BK120 := n1_; have GW120 := n2_; have GE120 := n3_; clear n0_ n1_ n2_ n3_; clear hb hbox hg; have hcz35_0 : w34.cell? ⟨gb120, 0, none⟩ = some (.int .i64 a0_0) := (blk_cell BK120.out 0).trans rfl; have hcz35_1 : w34.cell? ⟨gb120, 1, none⟩ = some (.int .i64 a0_1) := (blk_cell BK120.out 1).trans rfl; have hfz35_0 := blk_frozen BK120.out 0; have hfz35_1 := blk_frozen BK120.out 1) | ((with_reducible refine gate_callee (f := 31) rfl ?_); refine goesL_ (some 57) rfl rfl Try.func31 (by kernel_rfl) rfl #[.bool (decide (a0_0 ≤ a0_1))] rfl aq ?_; (with_reducible refine (expr_truth.calls (decide (a0_0 ≤ a0_1)) t129 _ A32.out).mono ?_); rintro e w' ⟨rfl, ⟨nd, rfl⟩⟩; refine ⟨_, rfl, ?_⟩) | ((with_reducible refine gate_callee (f := 30) rfl ?_); refine goesL_ (some 90) rfl rfl Try.func30 (by kernel_rfl) rfl #[.int .i64 t129] rfl aq ?_; (with_reducible refine (expr_value.calls t129 t130 _ A33.out).mono ?_); rintro e w' ⟨rfl, ⟨nd, rfl⟩⟩; refine ⟨_, rfl, ?_⟩))
        go_ret2
        exact ⟨xq, by repeat (first | (with_reducible first | exact HB.out | apply below_alloc | apply pw_below_drewN | apply below_drew1 | refine below_set ?_ GE120.out) | exact HB.out)⟩
       ·
        rw [if_neg c31] at H
        have c31b0 : (a1 == 12) = false := beq_eq_false_iff_ne.mpr c31
        have c31b1 : (a1 != 12) = true := bne_iff_ne.mpr c31
        by_cases c36 : a1 = 13
        ·
         rw [if_pos c36] at H
         have c36b0 : (a1 == 13) = true := beq_iff_eq.mpr c36
         have c36b1 : (a1 != 13) = false := bne_eq_false_iff_eq.mpr c36
         clear c36
         replace H := Option.bind_eq_some_iff.mp H
         obtain ⟨t131, A370, H⟩ := H
         replace H : ((expr_value.f t131).bind fun t132 => (some (t131, t132))) = some (r1, r2) := H
         have A37 := Am A370
         clear A370
         replace H := Option.bind_eq_some_iff.mp H
         obtain ⟨t132, A380, H⟩ := H
         replace H : (some (t131, t132)) = some (r1, r2) := H
         have A38 := Am A380
         clear A380
         simp only [Option.some.injEq, Prod.mk.injEq] at H
         obtain ⟨rfl, rfl⟩ := H
         go_enter Try.func32, Try.ntmps32
         go_wp2_with (first | ((with_reducible refine gate_dst (N := 2) rfl ?_); refine box_event ?hg (N := 2) ?hd (cs := #[.int .i64 a0_0, .int .i64 a0_1]) (t := 59) ?hr ?_; (case hd => rfl); (case hg => rfl); (case hr => first | (go_simp; done) | (go_simp; rfl)); intro gb120 hg w39 hbox hb; have n0_ := Am (below_step (bl) hb); have n1_ := Am (hbox); have n2_ := Am ((by rw [hg]; exact (below_size (bl)) : w.heap.size ≤ gb120)); have n3_ := Am ((by rw [hg]; exact (below_size (bl)) : w.heap.size ≤ gb120)); clear HB; have HB := n0_; have BK120 := n1_; have GW120 := n2_; have GE120 := n3_; clear n0_ n1_ n2_ n3_; clear hb hbox hg; have hcz40_0 : w39.cell? ⟨gb120, 0, none⟩ = some (.int .i64 a0_0) := (blk_cell BK120.out 0).trans rfl; have hcz40_1 : w39.cell? ⟨gb120, 1, none⟩ = some (.int .i64 a0_1) := (blk_cell BK120.out 1).trans rfl; have hfz40_0 := blk_frozen BK120.out 0; have hfz40_1 := blk_frozen BK120.out 1) | ((with_reducible refine gate_callee (f := 31) rfl ?_); refine goesL_ (some 65) rfl rfl Try.func31 (by kernel_rfl) rfl #[.bool (a0_0 == a0_1)] rfl aq ?_; (with_reducible refine (expr_truth.calls (a0_0 == a0_1) t131 _ A37.out).mono ?_); rintro e w' ⟨rfl, ⟨nd, rfl⟩⟩; refine ⟨_, rfl, ?_⟩) | ((with_reducible refine gate_callee (f := 30) rfl ?_); refine goesL_ (some 90) rfl rfl Try.func30 (by kernel_rfl) rfl #[.int .i64 t131] rfl aq ?_; (with_reducible refine (expr_value.calls t131 t132 _ A38.out).mono ?_); rintro e w' ⟨rfl, ⟨nd, rfl⟩⟩; refine ⟨_, rfl, ?_⟩))
         go_ret2
         exact ⟨xq, by repeat (first | (with_reducible first | exact HB.out | apply below_alloc | apply pw_below_drewN | apply below_drew1 | refine below_set ?_ GE120.out) | exact HB.out)⟩
        ·
         rw [if_neg c36] at H
         have c36b0 : (a1 == 13) = false := beq_eq_false_iff_ne.mpr c36
         have c36b1 : (a1 != 13) = true := bne_iff_ne.mpr c36
         by_cases c41 : a1 = 14
         ·
          rw [if_pos c41] at H
          have c41b0 : (a1 == 14) = true := beq_iff_eq.mpr c41
          have c41b1 : (a1 != 14) = false := bne_eq_false_iff_eq.mpr c41
          clear c41
          by_cases c42 : a0_0 = 0
          ·
           rw [if_pos c42] at H
           have c42b0 : (a0_0 == 0) = true := beq_iff_eq.mpr c42
           have c42b1 : (a0_0 != 0) = false := bne_eq_false_iff_eq.mpr c42
           clear c42
           replace H := Option.bind_eq_some_iff.mp H
           obtain ⟨t133, A430, H⟩ := H
           replace H : ((expr_value.f t133).bind fun t134 => (some (t133, t134))) = some (r1, r2) := H
           have A43 := Am A430
           clear A430
           replace H := Option.bind_eq_some_iff.mp H
           obtain ⟨t134, A440, H⟩ := H
           replace H : (some (t133, t134)) = some (r1, r2) := H
           have A44 := Am A440
           clear A440
           simp only [Option.some.injEq, Prod.mk.injEq] at H
           obtain ⟨rfl, rfl⟩ := H
           go_enter Try.func32, Try.ntmps32
           go_wp2_with (first | ((with_reducible refine gate_dst (N := 2) rfl ?_); refine box_event ?hg (N := 2) ?hd (cs := #[.int .i64 a0_0, .int .i64 a0_1]) (t := 59) ?hr ?_; (case hd => rfl); (case hg => rfl); (case hr => first | (go_simp; done) | (go_simp; rfl)); intro gb120 hg w45 hbox hb; have n0_ := Am (below_step (bl) hb); have n1_ := Am (hbox); have n2_ := Am ((by rw [hg]; exact (below_size (bl)) : w.heap.size ≤ gb120)); have n3_ := Am ((by rw [hg]; exact (below_size (bl)) : w.heap.size ≤ gb120)); clear HB; have HB := n0_; have BK120 := n1_; have GW120 := n2_; have GE120 := n3_; clear n0_ n1_ n2_ n3_; clear hb hbox hg; have hcz46_0 : w45.cell? ⟨gb120, 0, none⟩ = some (.int .i64 a0_0) := (blk_cell BK120.out 0).trans rfl; have hcz46_1 : w45.cell? ⟨gb120, 1, none⟩ = some (.int .i64 a0_1) := (blk_cell BK120.out 1).trans rfl; have hfz46_0 := blk_frozen BK120.out 0; have hfz46_1 := blk_frozen BK120.out 1) | ((with_reducible refine gate_callee (f := 31) rfl ?_); refine goesL_ (some 76) rfl rfl Try.func31 (by kernel_rfl) rfl #[.bool false] rfl aq ?_; (with_reducible refine (expr_truth.calls false t133 _ A43.out).mono ?_); rintro e w' ⟨rfl, ⟨nd, rfl⟩⟩; refine ⟨_, rfl, ?_⟩) | ((with_reducible refine gate_callee (f := 30) rfl ?_); refine goesL_ (some 90) rfl rfl Try.func30 (by kernel_rfl) rfl #[.int .i64 t133] rfl aq ?_; (with_reducible refine (expr_value.calls t133 t134 _ A44.out).mono ?_); rintro e w' ⟨rfl, ⟨nd, rfl⟩⟩; refine ⟨_, rfl, ?_⟩))
           go_ret2
           exact ⟨xq, by repeat (first | (with_reducible first | exact HB.out | apply below_alloc | apply pw_below_drewN | apply below_drew1 | refine below_set ?_ GE120.out) | exact HB.out)⟩
          ·
           rw [if_neg c42] at H
           have c42b0 : (a0_0 == 0) = false := beq_eq_false_iff_ne.mpr c42
           have c42b1 : (a0_0 != 0) = true := bne_iff_ne.mpr c42
           replace H := Option.bind_eq_some_iff.mp H
           obtain ⟨t135, A470, H⟩ := H
           replace H : ((expr_value.f t135).bind fun t136 => (some (t135, t136))) = some (r1, r2) := H
           have A47 := Am A470
           clear A470
           replace H := Option.bind_eq_some_iff.mp H
           obtain ⟨t136, A480, H⟩ := H
           replace H : (some (t135, t136)) = some (r1, r2) := H
           have A48 := Am A480
           clear A480
           simp only [Option.some.injEq, Prod.mk.injEq] at H
           obtain ⟨rfl, rfl⟩ := H
           go_enter Try.func32, Try.ntmps32
           go_wp2_with (first | ((with_reducible refine gate_dst (N := 2) rfl ?_); refine box_event ?hg (N := 2) ?hd (cs := #[.int .i64 a0_0, .int .i64 a0_1]) (t := 59) ?hr ?_; (case hd => rfl); (case hg => rfl); (case hr => first | (go_simp; done) | (go_simp; rfl)); intro gb120 hg w49 hbox hb; have n0_ := Am (below_step (bl) hb); have n1_ := Am (hbox); have n2_ := Am ((by rw [hg]; exact (below_size (bl)) : w.heap.size ≤ gb120)); have n3_ := Am ((by rw [hg]; exact (below_size (bl)) : w.heap.size ≤ gb120)); clear HB; have HB := n0_; have BK120 := n1_; have GW120 := n2_; have GE120 := n3_; clear n0_ n1_ n2_ n3_; clear hb hbox hg; have hcz50_0 : w49.cell? ⟨gb120, 0, none⟩ = some (.int .i64 a0_0) := (blk_cell BK120.out 0).trans rfl; have hcz50_1 : w49.cell? ⟨gb120, 1, none⟩ = some (.int .i64 a0_1) := (blk_cell BK120.out 1).trans rfl; have hfz50_0 := blk_frozen BK120.out 0; have hfz50_1 := blk_frozen BK120.out 1) | ((with_reducible refine gate_callee (f := 31) rfl ?_); refine goesL_ (some 76) rfl rfl Try.func31 (by kernel_rfl) rfl #[.bool (a0_1 != 0)] rfl aq ?_; (with_reducible refine (expr_truth.calls (a0_1 != 0) t135 _ A47.out).mono ?_); rintro e w' ⟨rfl, ⟨nd, rfl⟩⟩; refine ⟨_, rfl, ?_⟩) | ((with_reducible refine gate_callee (f := 30) rfl ?_); refine goesL_ (some 90) rfl rfl Try.func30 (by kernel_rfl) rfl #[.int .i64 t135] rfl aq ?_; (with_reducible refine (expr_value.calls t135 t136 _ A48.out).mono ?_); rintro e w' ⟨rfl, ⟨nd, rfl⟩⟩; refine ⟨_, rfl, ?_⟩))
           go_ret2
           exact ⟨xq, by repeat (first | (with_reducible first | exact HB.out | apply below_alloc | apply pw_below_drewN | apply below_drew1 | refine below_set ?_ GE120.out) | exact HB.out)⟩
         ·
          rw [if_neg c41] at H
          have c41b0 : (a1 == 14) = false := beq_eq_false_iff_ne.mpr c41
          have c41b1 : (a1 != 14) = true := bne_iff_ne.mpr c41
          by_cases c51 : a1 = 15
          ·
           rw [if_pos c51] at H
           have c51b0 : (a1 == 15) = true := beq_iff_eq.mpr c51
           have c51b1 : (a1 != 15) = false := bne_eq_false_iff_eq.mpr c51
           clear c51
           by_cases c52 : a0_0 = 0
           ·
            rw [if_pos c52] at H
            have c52b0 : (a0_0 == 0) = true := beq_iff_eq.mpr c52
            have c52b1 : (a0_0 != 0) = false := bne_eq_false_iff_eq.mpr c52
            clear c52
            replace H := Option.bind_eq_some_iff.mp H
            obtain ⟨t137, A530, H⟩ := H
            replace H : ((expr_value.f t137).bind fun t138 => (some (t137, t138))) = some (r1, r2) := H
            have A53 := Am A530
            clear A530
            replace H := Option.bind_eq_some_iff.mp H
            obtain ⟨t138, A540, H⟩ := H
            replace H : (some (t137, t138)) = some (r1, r2) := H
            have A54 := Am A540
            clear A540
            simp only [Option.some.injEq, Prod.mk.injEq] at H
            obtain ⟨rfl, rfl⟩ := H
            go_enter Try.func32, Try.ntmps32
            go_wp2_with (first | ((with_reducible refine gate_dst (N := 2) rfl ?_); refine box_event ?hg (N := 2) ?hd (cs := #[.int .i64 a0_0, .int .i64 a0_1]) (t := 59) ?hr ?_; (case hd => rfl); (case hg => rfl); (case hr => first | (go_simp; done) | (go_simp; rfl)); intro gb120 hg w55 hbox hb; have n0_ := Am (below_step (bl) hb); have n1_ := Am (hbox); have n2_ := Am ((by rw [hg]; exact (below_size (bl)) : w.heap.size ≤ gb120)); have n3_ := Am ((by rw [hg]; exact (below_size (bl)) : w.heap.size ≤ gb120)); clear HB; have HB := n0_; have BK120 := n1_; have GW120 := n2_; have GE120 := n3_; clear n0_ n1_ n2_ n3_; clear hb hbox hg; have hcz56_0 : w55.cell? ⟨gb120, 0, none⟩ = some (.int .i64 a0_0) := (blk_cell BK120.out 0).trans rfl; have hcz56_1 : w55.cell? ⟨gb120, 1, none⟩ = some (.int .i64 a0_1) := (blk_cell BK120.out 1).trans rfl; have hfz56_0 := blk_frozen BK120.out 0; have hfz56_1 := blk_frozen BK120.out 1) | ((with_reducible refine gate_callee (f := 31) rfl ?_); refine goesL_ (some 87) rfl rfl Try.func31 (by kernel_rfl) rfl #[.bool (a0_1 != 0)] rfl aq ?_; (with_reducible refine (expr_truth.calls (a0_1 != 0) t137 _ A53.out).mono ?_); rintro e w' ⟨rfl, ⟨nd, rfl⟩⟩; refine ⟨_, rfl, ?_⟩) | ((with_reducible refine gate_callee (f := 30) rfl ?_); refine goesL_ (some 90) rfl rfl Try.func30 (by kernel_rfl) rfl #[.int .i64 t137] rfl aq ?_; (with_reducible refine (expr_value.calls t137 t138 _ A54.out).mono ?_); rintro e w' ⟨rfl, ⟨nd, rfl⟩⟩; refine ⟨_, rfl, ?_⟩))
            go_ret2
            exact ⟨xq, by repeat (first | (with_reducible first | exact HB.out | apply below_alloc | apply pw_below_drewN | apply below_drew1 | refine below_set ?_ GE120.out) | exact HB.out)⟩
           ·
            rw [if_neg c52] at H
            have c52b0 : (a0_0 == 0) = false := beq_eq_false_iff_ne.mpr c52
            have c52b1 : (a0_0 != 0) = true := bne_iff_ne.mpr c52
            replace H := Option.bind_eq_some_iff.mp H
            obtain ⟨t139, A570, H⟩ := H
            replace H : ((expr_value.f t139).bind fun t140 => (some (t139, t140))) = some (r1, r2) := H
            have A57 := Am A570
            clear A570
            replace H := Option.bind_eq_some_iff.mp H
            obtain ⟨t140, A580, H⟩ := H
            replace H : (some (t139, t140)) = some (r1, r2) := H
            have A58 := Am A580
            clear A580
            simp only [Option.some.injEq, Prod.mk.injEq] at H
            obtain ⟨rfl, rfl⟩ := H
            go_enter Try.func32, Try.ntmps32
            go_wp2_with (first | ((with_reducible refine gate_dst (N := 2) rfl ?_); refine box_event ?hg (N := 2) ?hd (cs := #[.int .i64 a0_0, .int .i64 a0_1]) (t := 59) ?hr ?_; (case hd => rfl); (case hg => rfl); (case hr => first | (go_simp; done) | (go_simp; rfl)); intro gb120 hg w59 hbox hb; have n0_ := Am (below_step (bl) hb); have n1_ := Am (hbox); have n2_ := Am ((by rw [hg]; exact (below_size (bl)) : w.heap.size ≤ gb120)); have n3_ := Am ((by rw [hg]; exact (below_size (bl)) : w.heap.size ≤ gb120)); clear HB; have HB := n0_; have BK120 := n1_; have GW120 := n2_; have GE120 := n3_; clear n0_ n1_ n2_ n3_; clear hb hbox hg; have hcz60_0 : w59.cell? ⟨gb120, 0, none⟩ = some (.int .i64 a0_0) := (blk_cell BK120.out 0).trans rfl; have hcz60_1 : w59.cell? ⟨gb120, 1, none⟩ = some (.int .i64 a0_1) := (blk_cell BK120.out 1).trans rfl; have hfz60_0 := blk_frozen BK120.out 0; have hfz60_1 := blk_frozen BK120.out 1) | ((with_reducible refine gate_callee (f := 31) rfl ?_); refine goesL_ (some 87) rfl rfl Try.func31 (by kernel_rfl) rfl #[.bool true] rfl aq ?_; (with_reducible refine (expr_truth.calls true t139 _ A57.out).mono ?_); rintro e w' ⟨rfl, ⟨nd, rfl⟩⟩; refine ⟨_, rfl, ?_⟩) | ((with_reducible refine gate_callee (f := 30) rfl ?_); refine goesL_ (some 90) rfl rfl Try.func30 (by kernel_rfl) rfl #[.int .i64 t139] rfl aq ?_; (with_reducible refine (expr_value.calls t139 t140 _ A58.out).mono ?_); rintro e w' ⟨rfl, ⟨nd, rfl⟩⟩; refine ⟨_, rfl, ?_⟩))
            go_ret2
            exact ⟨xq, by repeat (first | (with_reducible first | exact HB.out | apply below_alloc | apply pw_below_drewN | apply below_drew1 | refine below_set ?_ GE120.out) | exact HB.out)⟩
          ·
           rw [if_neg c51] at H
           have c51b0 : (a1 == 15) = false := beq_eq_false_iff_ne.mpr c51
           have c51b1 : (a1 != 15) = true := bne_iff_ne.mpr c51
           replace H := Option.bind_eq_some_iff.mp H
           obtain ⟨t141, A610, H⟩ := H
           replace H : (some (0, t141)) = some (r1, r2) := H
           have A61 := Am A610
           clear A610
           simp only [Option.some.injEq, Prod.mk.injEq] at H
           obtain ⟨rfl, rfl⟩ := H
           go_enter Try.func32, Try.ntmps32
           go_wp2_with (first | ((with_reducible refine gate_dst (N := 2) rfl ?_); refine box_event ?hg (N := 2) ?hd (cs := #[.int .i64 a0_0, .int .i64 a0_1]) (t := 59) ?hr ?_; (case hd => rfl); (case hg => rfl); (case hr => first | (go_simp; done) | (go_simp; rfl)); intro gb120 hg w62 hbox hb; have n0_ := Am (below_step (bl) hb); have n1_ := Am (hbox); have n2_ := Am ((by rw [hg]; exact (below_size (bl)) : w.heap.size ≤ gb120)); have n3_ := Am ((by rw [hg]; exact (below_size (bl)) : w.heap.size ≤ gb120)); clear HB; have HB := n0_; have BK120 := n1_; have GW120 := n2_; have GE120 := n3_; clear n0_ n1_ n2_ n3_; clear hb hbox hg) | ((with_reducible refine gate_callee (f := 30) rfl ?_); refine goesL_ (some 90) rfl rfl Try.func30 (by kernel_rfl) rfl #[.int .i64 0] rfl aq ?_; (with_reducible refine (expr_value.calls 0 t141 _ A61.out).mono ?_); rintro e w' ⟨rfl, ⟨nd, rfl⟩⟩; refine ⟨_, rfl, ?_⟩))
           go_ret2
           exact ⟨xq, by repeat (first | (with_reducible first | exact HB.out | apply below_alloc | apply pw_below_drewN | apply below_drew1 | refine below_set ?_ GE120.out) | exact HB.out)⟩

/-! ### expr_made: function 26 -/
def expr_made.f (k : Nat) (a0 : Int) (l1 : List Int) : Option (Int × Bool) := if a0 = 4 then (if 0 < (l1.length : Int) then (some (wrap64 (-(rd l1 0)), true)) else (none)) else (if a0 = 5 then (if 0 < (l1.length : Int) then ((expr_truth.f ((rd l1 0) == 0)).bind fun t144 => (some (t144, true))) else (none)) else (if a0 = 16 then (if 0 < (l1.length : Int) then (if (rd l1 0) = 0 then (if 2 < (l1.length : Int) then (some (rd l1 2, true)) else (none)) else (if 1 < (l1.length : Int) then (some (rd l1 1, true)) else (none))) else (none)) else (if 0 < (l1.length : Int) then (if 1 < (l1.length : Int) then ((expr_two_does.f k (rd l1 0) (rd l1 1) a0).bind fun bt150 => (some (bt150.1, bt150.2))) else (none)) else (none))))
theorem expr_made.mono : ∀ a0 a1 k, LeO (expr_made.f k a0 a1) (expr_made.f (k + 1) a0 a1) := by
 intro a0 a1 k
 unfold expr_made.f
 repeat' first
   | (with_reducible exact expr_two_does.mono _ _ _ _)
   | (with_reducible exact LeO.refl _)
   | (with_reducible exact LeO.none _)
   | (with_reducible refine LeO.ite ?_ ?_)
   | (with_reducible refine LeO.bind ?_ (fun _ => ?_))
   | exact expr_two_does.mono _ _ _ _
   | exact LeO.none _
   | refine LeO.ite ?_ ?_
   | refine LeO.bind ?_ (fun _ => ?_)
set_option maxHeartbeats 8000000 in
set_option maxRecDepth 100000 in
theorem expr_made.calls (k : Nat) (a0 : Int) (A1 : Option Addr) (c1 : Nat) (l1 : List Int) (r1 : Int) (r2 : Bool) (w : World) (hr1 : Kd.C (Kd.int .i64) w A1 l1.length l1) (hc1 : l1.length ≤ c1) (h : expr_made.f k a0 l1 = some (r1, r2)) :
  Calls Try.prog 26 #[.int .i64 a0, .slice A1 l1.length c1] w fun e w' => e = .returned (.tuple #[.int .i64 r1, .bool r2]) ∧ Below w.heap.size w w' := by
 have hu59 := Try.underlying59
 have HR1 := Am hr1
 have HC1 := Am hc1
 clear hr1 hc1
 have HB := Am (Below.refl w.heap.size w)
 have H : (if a0 = 4 then (if 0 < (l1.length : Int) then (some (wrap64 (-(rd l1 0)), true)) else (none)) else (if a0 = 5 then (if 0 < (l1.length : Int) then ((expr_truth.f ((rd l1 0) == 0)).bind fun t144 => (some (t144, true))) else (none)) else (if a0 = 16 then (if 0 < (l1.length : Int) then (if (rd l1 0) = 0 then (if 2 < (l1.length : Int) then (some (rd l1 2, true)) else (none)) else (if 1 < (l1.length : Int) then (some (rd l1 1, true)) else (none))) else (none)) else (if 0 < (l1.length : Int) then (if 1 < (l1.length : Int) then ((expr_two_does.f k (rd l1 0) (rd l1 1) a0).bind fun bt150 => (some (bt150.1, bt150.2))) else (none)) else (none))))) = some (r1, r2) := h
 clear h
 by_cases c3 : a0 = 4
 ·
  rw [if_pos c3] at H
  have c3b0 : (a0 == 4) = true := beq_iff_eq.mpr c3
  have c3b1 : (a0 != 4) = false := bne_eq_false_iff_eq.mpr c3
  clear c3
  by_cases c4 : 0 < (l1.length : Int)
  ·
   rw [if_pos c4] at H
   have c4b0 : decide (0 < (l1.length : Int)) = true := decide_eq_true c4
   have c4b1 : decide (0 < l1.length) = true := decide_eq_true (by omega)
   clear c4
   simp only [Option.some.injEq, Prod.mk.injEq] at H
   obtain ⟨rfl, rfl⟩ := H
   have p142 : 0 ≤ (0 : Int) := (by omega)
   have q142 : 0 < (l1.length : Int) := of_decide_eq_true az
   obtain ⟨ad142, e142, hx142_0⟩ := Kd.at_int HR1.out 0 p142 q142
   cases e142
   have qi142 : (0 < l1.length) = True := eq_true (by omega)
   (try rw [show ((0 : Int)).toNat = 0 from rfl] at hx142_0)
   (try rw [Addr.add_zero'] at hx142_0)
   replace p142 := eq_true p142
   replace q142 := eq_true q142
   go_enter Try.func26, Try.ntmps26
   go_wp2
   repeat (go_quiet (fail); try go_wp2)
   go_ret2
   exact ⟨xq, bl⟩
  ·
   rw [if_neg c4] at H
   exact absurd H (by simp)
 ·
  rw [if_neg c3] at H
  have c3b0 : (a0 == 4) = false := beq_eq_false_iff_ne.mpr c3
  have c3b1 : (a0 != 4) = true := bne_iff_ne.mpr c3
  by_cases c5 : a0 = 5
  ·
   rw [if_pos c5] at H
   have c5b0 : (a0 == 5) = true := beq_iff_eq.mpr c5
   have c5b1 : (a0 != 5) = false := bne_eq_false_iff_eq.mpr c5
   clear c5
   by_cases c6 : 0 < (l1.length : Int)
   ·
    rw [if_pos c6] at H
    have c6b0 : decide (0 < (l1.length : Int)) = true := decide_eq_true c6
    have c6b1 : decide (0 < l1.length) = true := decide_eq_true (by omega)
    clear c6
    replace H := Option.bind_eq_some_iff.mp H
    obtain ⟨t144, A70, H⟩ := H
    replace H : (some (t144, true)) = some (r1, r2) := H
    have A7 := Am A70
    clear A70
    simp only [Option.some.injEq, Prod.mk.injEq] at H
    obtain ⟨rfl, rfl⟩ := H
    have p143 : 0 ≤ (0 : Int) := (by omega)
    have q143 : 0 < (l1.length : Int) := of_decide_eq_true az
    obtain ⟨ad143, e143, hx143_0⟩ := Kd.at_int HR1.out 0 p143 q143
    cases e143
    have qi143 : (0 < l1.length) = True := eq_true (by omega)
    (try rw [show ((0 : Int)).toNat = 0 from rfl] at hx143_0)
    (try rw [Addr.add_zero'] at hx143_0)
    replace p143 := eq_true p143
    replace q143 := eq_true q143
    go_enter Try.func26, Try.ntmps26
    go_wp2_with (first | (go_at_call 31; (with_reducible refine (expr_truth.calls ((rd l1 0) == 0) t144 _ A7.out).mono ?_); rintro e w' ⟨rfl, ⟨nd, rfl⟩⟩; (try first | exact ⟨rfl, _, World.drewN_drewN _ _ _⟩ | exact ⟨rfl, _, Eq.trans (World.drewN_drewN _ _ _) (congrArg (World.drewN _) (Nat.add_assoc _ _ _))⟩)))
    repeat (go_quiet (first | (go_at_call 31; (with_reducible refine (expr_truth.calls ((rd l1 0) == 0) t144 _ A7.out).mono ?_); rintro e w' ⟨rfl, ⟨nd, rfl⟩⟩; (try first | exact ⟨rfl, _, World.drewN_drewN _ _ _⟩ | exact ⟨rfl, _, Eq.trans (World.drewN_drewN _ _ _) (congrArg (World.drewN _) (Nat.add_assoc _ _ _))⟩))); try go_wp2_with (first | (go_at_call 31; (with_reducible refine (expr_truth.calls ((rd l1 0) == 0) t144 _ A7.out).mono ?_); rintro e w' ⟨rfl, ⟨nd, rfl⟩⟩; (try first | exact ⟨rfl, _, World.drewN_drewN _ _ _⟩ | exact ⟨rfl, _, Eq.trans (World.drewN_drewN _ _ _) (congrArg (World.drewN _) (Nat.add_assoc _ _ _))⟩))))
    go_ret2
    exact ⟨xq, bl⟩
   ·
    rw [if_neg c6] at H
    exact absurd H (by simp)
  ·
   rw [if_neg c5] at H
   have c5b0 : (a0 == 5) = false := beq_eq_false_iff_ne.mpr c5
   have c5b1 : (a0 != 5) = true := bne_iff_ne.mpr c5
   by_cases c8 : a0 = 16
   ·
    rw [if_pos c8] at H
    have c8b0 : (a0 == 16) = true := beq_iff_eq.mpr c8
    have c8b1 : (a0 != 16) = false := bne_eq_false_iff_eq.mpr c8
    clear c8
    by_cases c9 : 0 < (l1.length : Int)
    ·
     rw [if_pos c9] at H
     have c9b0 : decide (0 < (l1.length : Int)) = true := decide_eq_true c9
     have c9b1 : decide (0 < l1.length) = true := decide_eq_true (by omega)
     clear c9
     by_cases c10 : (rd l1 0) = 0
     ·
      rw [if_pos c10] at H
      have c10b0 : ((rd l1 0) == 0) = true := beq_iff_eq.mpr c10
      have c10b1 : ((rd l1 0) != 0) = false := bne_eq_false_iff_eq.mpr c10
      clear c10
      by_cases c11 : 2 < (l1.length : Int)
      ·
       rw [if_pos c11] at H
       have c11b0 : decide (2 < (l1.length : Int)) = true := decide_eq_true c11
       have c11b1 : decide (2 < l1.length) = true := decide_eq_true (by omega)
       clear c11
       simp only [Option.some.injEq, Prod.mk.injEq] at H
       obtain ⟨rfl, rfl⟩ := H
       have p145 : 0 ≤ (0 : Int) := (by omega)
       have q145 : 0 < (l1.length : Int) := of_decide_eq_true az
       obtain ⟨ad145, e145, hx145_0⟩ := Kd.at_int HR1.out 0 p145 q145
       cases e145
       have qi145 : (0 < l1.length) = True := eq_true (by omega)
       (try rw [show ((0 : Int)).toNat = 0 from rfl] at hx145_0)
       (try rw [Addr.add_zero'] at hx145_0)
       replace p145 := eq_true p145
       replace q145 := eq_true q145
       have p146 : 0 ≤ (2 : Int) := (by omega)
       have q146 : 2 < (l1.length : Int) := of_decide_eq_true az
       obtain ⟨ad146, e146, hx146_0⟩ := Kd.at_int HR1.out 2 p146 q146
       obtain rfl : ad145 = ad146 := (by injection e146)
       (try simp only [show (2 : Int).toNat = 2 from rfl, Nat.reduceMul, Nat.reduceEqDiff, Go.Addr.add, ↓reduceIte] at hx146_0)
       have qi146 : (2 < l1.length) = True := eq_true (by omega)
       (try rw [show ((2 : Int)).toNat = 2 from rfl] at hx146_0)
       replace p146 := eq_true p146
       replace q146 := eq_true q146
       go_enter Try.func26, Try.ntmps26
       go_wp2
       repeat (go_quiet (fail); try go_wp2)
       go_ret2
       exact ⟨xq, bl⟩
      ·
       rw [if_neg c11] at H
       exact absurd H (by simp)
     ·
      rw [if_neg c10] at H
      have c10b0 : ((rd l1 0) == 0) = false := beq_eq_false_iff_ne.mpr c10
      have c10b1 : ((rd l1 0) != 0) = true := bne_iff_ne.mpr c10
      by_cases c12 : 1 < (l1.length : Int)
      ·
       rw [if_pos c12] at H
       have c12b0 : decide (1 < (l1.length : Int)) = true := decide_eq_true c12
       have c12b1 : decide (1 < l1.length) = true := decide_eq_true (by omega)
       clear c12
       simp only [Option.some.injEq, Prod.mk.injEq] at H
       obtain ⟨rfl, rfl⟩ := H
       have p145 : 0 ≤ (0 : Int) := (by omega)
       have q145 : 0 < (l1.length : Int) := of_decide_eq_true az
       obtain ⟨ad145, e145, hx145_0⟩ := Kd.at_int HR1.out 0 p145 q145
       cases e145
       have qi145 : (0 < l1.length) = True := eq_true (by omega)
       (try rw [show ((0 : Int)).toNat = 0 from rfl] at hx145_0)
       (try rw [Addr.add_zero'] at hx145_0)
       replace p145 := eq_true p145
       replace q145 := eq_true q145
       have p147 : 0 ≤ (1 : Int) := (by omega)
       have q147 : 1 < (l1.length : Int) := of_decide_eq_true az
       obtain ⟨ad147, e147, hx147_0⟩ := Kd.at_int HR1.out 1 p147 q147
       obtain rfl : ad145 = ad147 := (by injection e147)
       (try simp only [show (1 : Int).toNat = 1 from rfl, Nat.reduceMul, Nat.reduceEqDiff, Go.Addr.add, ↓reduceIte] at hx147_0)
       have qi147 : (1 < l1.length) = True := eq_true (by omega)
       (try rw [show ((1 : Int)).toNat = 1 from rfl] at hx147_0)
       replace p147 := eq_true p147
       replace q147 := eq_true q147
       go_enter Try.func26, Try.ntmps26
       go_wp2
       repeat (go_quiet (fail); try go_wp2)
       go_ret2
       exact ⟨xq, bl⟩
      ·
       rw [if_neg c12] at H
       exact absurd H (by simp)
    ·
     rw [if_neg c9] at H
     exact absurd H (by simp)
   ·
    rw [if_neg c8] at H
    have c8b0 : (a0 == 16) = false := beq_eq_false_iff_ne.mpr c8
    have c8b1 : (a0 != 16) = true := bne_iff_ne.mpr c8
    by_cases c13 : 0 < (l1.length : Int)
    ·
     rw [if_pos c13] at H
     have c13b0 : decide (0 < (l1.length : Int)) = true := decide_eq_true c13
     have c13b1 : decide (0 < l1.length) = true := decide_eq_true (by omega)
     clear c13
     by_cases c14 : 1 < (l1.length : Int)
     ·
      rw [if_pos c14] at H
      have c14b0 : decide (1 < (l1.length : Int)) = true := decide_eq_true c14
      have c14b1 : decide (1 < l1.length) = true := decide_eq_true (by omega)
      clear c14
      replace H := Option.bind_eq_some_iff.mp H
      obtain ⟨⟨t150, t151⟩, A150, H⟩ := H
      replace H : (some (t150, t151)) = some (r1, r2) := H
      have A15 := Am A150
      clear A150
      simp only [Option.some.injEq, Prod.mk.injEq] at H
      obtain ⟨rfl, rfl⟩ := H
      have p148 : 0 ≤ (0 : Int) := (by omega)
      have q148 : 0 < (l1.length : Int) := of_decide_eq_true az
      obtain ⟨ad148, e148, hx148_0⟩ := Kd.at_int HR1.out 0 p148 q148
      cases e148
      have qi148 : (0 < l1.length) = True := eq_true (by omega)
      (try rw [show ((0 : Int)).toNat = 0 from rfl] at hx148_0)
      (try rw [Addr.add_zero'] at hx148_0)
      replace p148 := eq_true p148
      replace q148 := eq_true q148
      have p149 : 0 ≤ (1 : Int) := (by omega)
      have q149 : 1 < (l1.length : Int) := of_decide_eq_true az
      obtain ⟨ad149, e149, hx149_0⟩ := Kd.at_int HR1.out 1 p149 q149
      obtain rfl : ad148 = ad149 := (by injection e149)
      (try simp only [show (1 : Int).toNat = 1 from rfl, Nat.reduceMul, Nat.reduceEqDiff, Go.Addr.add, ↓reduceIte] at hx149_0)
      have qi149 : (1 < l1.length) = True := eq_true (by omega)
      (try rw [show ((1 : Int)).toNat = 1 from rfl] at hx149_0)
      replace p149 := eq_true p149
      replace q149 := eq_true q149
      go_enter Try.func26, Try.ntmps26
      go_wp2_with (first | (go_at_call 32; (with_reducible refine (expr_two_does.calls k (rd l1 0) (rd l1 1) a0 t150 t151 _ A15.out).mono ?_); rintro e w16 ⟨rfl, hb⟩; have n0_ := Am (below_step (bl) hb); clear HB; have HB := n0_; clear n0_; (try clear hb); (try clear hb2); (try clear hk); (try clear hi)))
      repeat (go_quiet (first | (go_at_call 32; (with_reducible refine (expr_two_does.calls k (rd l1 0) (rd l1 1) a0 t150 t151 _ A15.out).mono ?_); rintro e w16 ⟨rfl, hb⟩; have n0_ := Am (below_step (bl) hb); clear HB; have HB := n0_; clear n0_; (try clear hb); (try clear hb2); (try clear hk); (try clear hi))); try go_wp2_with (first | (go_at_call 32; (with_reducible refine (expr_two_does.calls k (rd l1 0) (rd l1 1) a0 t150 t151 _ A15.out).mono ?_); rintro e w16 ⟨rfl, hb⟩; have n0_ := Am (below_step (bl) hb); clear HB; have HB := n0_; clear n0_; (try clear hb); (try clear hb2); (try clear hk); (try clear hi))))
      go_ret2
      exact ⟨xq, bl⟩
     ·
      rw [if_neg c14] at H
      exact absurd H (by simp)
    ·
     rw [if_neg c13] at H
     exact absurd H (by simp)

end Go.Proofs.Ythhnecbfcpmpbaa.PA
