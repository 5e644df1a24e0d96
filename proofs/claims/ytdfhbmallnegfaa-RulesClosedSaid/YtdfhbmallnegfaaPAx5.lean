-- Written by a program (wip/tools/gprint.py: a patched copy of the kit's print) and by hand, for this claim
import Derived.Test.YtdfhbmallnegfaaPAx0
import Derived.Test.YtdfhbmallnegfaaPAx4
namespace Go.Proofs.Ytdfhbmallnegfaa.PA
open Go.RowKit Go.Proofs.YtdfhbmallnegfaaW.PrintWords Go.Proofs.YtdfhbmallnegfaaW.PrintLast Go.Proofs.YtdfhbmallnegfaaW.PrintMore
attribute [local go_sem] max2_int min2_int max_two min_two max_three min_three max_four min_four   -- for this text's walks alone
set_option linter.unusedVariables false
set_option linter.unusedSimpArgs false

/-! ### expr_Check: function 59 -/
mutual
def expr_Check.j0 : Nat → List (S71) → Int → Int → Bool → Option (Int × Int)
 | 0, _, _, _, _ => none
 | k + 1, x0, x1, x2, x12 => if x12 = true then (some (0, 2)) else (if (x0.length : Int) > 31 then (some (0, 4)) else (expr_Check.l0 k x0 x1 x2 0 x0 (x0.length : Int) 0))
def expr_Check.l0 : Nat → List (S71) → Int → Int → Int → List (S71) → Int → Int → Option (Int × Int)
 | 0, _, _, _, _, _, _, _ => none
 | k + 1, x0, x1, x2, x8, x23, x24, x25 => if x25 < x24 then (if 0 ≤ x25 then (if x25 < (x23.length : Int) then ((expr_takes.f k ((rd_T71 x23 x25).f0)).bind fun t158 => (if t158 < 0 then (some (x25, 2)) else ((expr_named.f ((rd_T71 x23 x25).f0) ((rd_T71 x23 x25).f1) x1 x2).bind fun t159 => (if t159 = true then (if x8 < t158 then (some (x25, 5)) else (expr_Check.l0 k x0 x1 x2 (wrap64 (x8 + (wrap64 (1 - t158)))) x23 x24 (wrap64 (x25 + 1)))) else (some (x25, 3)))))) else (none)) else (none)) else (if x8 = 1 then (some (0, 0)) else (some ((x0.length : Int), 6)))
end
def expr_Check.f (k : Nat) (l0 : List (S71)) (a1 : Int) (a2 : Int) : Option (Int × Int) := if a1 < 0 then (expr_Check.j0 k l0 a1 a2 true) else (expr_Check.j0 k l0 a1 a2 (decide (a2 < 0)))
theorem expr_Check.mono_l : ∀ k, (∀ y0 y1 y2 y3, LeO (expr_Check.j0 k y0 y1 y2 y3) (expr_Check.j0 (k + 1) y0 y1 y2 y3)) ∧ (∀ y0 y1 y2 y3 y4 y5 y6, LeO (expr_Check.l0 k y0 y1 y2 y3 y4 y5 y6) (expr_Check.l0 (k + 1) y0 y1 y2 y3 y4 y5 y6))
 | 0 => ⟨fun _ _ _ _ r h => by simp [expr_Check.j0] at h, fun _ _ _ _ _ _ _ r h => by simp [expr_Check.l0] at h⟩
 | k + 1 => by
  obtain ⟨ih0, ih1⟩ := expr_Check.mono_l k
  refine ⟨?_, ?_⟩
  ·
   intro y0 y1 y2 y3
   unfold expr_Check.j0
   repeat' first
   | (with_reducible exact ih0 _ _ _ _)
   | (with_reducible exact ih1 _ _ _ _ _ _ _)
   | (with_reducible exact expr_takes.mono _ _)
   | (with_reducible exact LeO.refl _)
   | (with_reducible exact LeO.none _)
   | (with_reducible refine LeO.ite ?_ ?_)
   | (with_reducible refine LeO.bind ?_ (fun _ => ?_))
   | exact ih0 _ _ _ _
   | exact ih1 _ _ _ _ _ _ _
   | exact expr_takes.mono _ _
   | exact LeO.none _
   | refine LeO.ite ?_ ?_
   | refine LeO.bind ?_ (fun _ => ?_)
  ·
   intro y0 y1 y2 y3 y4 y5 y6
   unfold expr_Check.l0
   repeat' first
   | (with_reducible exact ih0 _ _ _ _)
   | (with_reducible exact ih1 _ _ _ _ _ _ _)
   | (with_reducible exact expr_takes.mono _ _)
   | (with_reducible exact LeO.refl _)
   | (with_reducible exact LeO.none _)
   | (with_reducible refine LeO.ite ?_ ?_)
   | (with_reducible refine LeO.bind ?_ (fun _ => ?_))
   | exact ih0 _ _ _ _
   | exact ih1 _ _ _ _ _ _ _
   | exact expr_takes.mono _ _
   | exact LeO.none _
   | refine LeO.ite ?_ ?_
   | refine LeO.bind ?_ (fun _ => ?_)
theorem expr_Check.mono : ∀ a0 a1 a2 k, LeO (expr_Check.f k a0 a1 a2) (expr_Check.f (k + 1) a0 a1 a2) := by
 intro a0 a1 a2 k
 obtain ⟨ih0, ih1⟩ := expr_Check.mono_l k
 unfold expr_Check.f
 repeat' first
   | (with_reducible exact ih0 _ _ _ _)
   | (with_reducible exact ih1 _ _ _ _ _ _ _)
   | (with_reducible exact expr_takes.mono _ _)
   | (with_reducible exact LeO.refl _)
   | (with_reducible exact LeO.none _)
   | (with_reducible refine LeO.ite ?_ ?_)
   | (with_reducible refine LeO.bind ?_ (fun _ => ?_))
   | exact ih0 _ _ _ _
   | exact ih1 _ _ _ _ _ _ _
   | exact expr_takes.mono _ _
   | exact LeO.none _
   | refine LeO.ite ?_ ?_
   | refine LeO.bind ?_ (fun _ => ?_)
set_option maxHeartbeats 8000000 in
set_option maxRecDepth 100000 in
theorem expr_Check.calls (k : Nat) (A0 : Option Addr) (c0 : Nat) (l0 : List (S71)) (a1 : Int) (a2 : Int) (r1 : Int) (r2 : Int) (w : World) (hr0 : Kd.C k71 w A0 l0.length l0) (hc0 : l0.length ≤ c0) (h : expr_Check.f k l0 a1 a2 = some (r1, r2)) :
  Calls Try.prog 59 #[.slice A0 l0.length c0, .int .i64 a1, .int .i64 a2] w fun e w' => e = .returned (.tuple #[.int .i64 r1, .int .i64 r2]) ∧ Below w.heap.size w w' := by
 have hu71 := Try.underlying71
 have HR0 := Am hr0
 have HC0 := Am hc0
 clear hr0 hc0
 have HB := Am (Below.refl w.heap.size w)
 have H : (if a1 < 0 then (expr_Check.j0 k l0 a1 a2 true) else (expr_Check.j0 k l0 a1 a2 (decide (a2 < 0)))) = some (r1, r2) := h
 clear h
 have HC4 := Am H
 clear H
 go_enter Try.func59, Try.ntmps59
 go_upto_region 1 with (fail)
 go_cut [12] (fun v12 wc => ∃ (kq : Nat) (x12_3 : Bool), v12 = .bool x12_3 ∧ Aside0 (expr_Check.j0 kq l0 a1 a2 x12_3 = some (r1, r2)) ∧ Aside0 (kq ≤ k) ∧ Aside0 (Below w.heap.size w wc))
 case first =>
  have H := HC4.out
  clear HC4
  by_cases c5 : a1 < 0
  ·
   rw [if_pos c5] at H
   have c5b0 : decide (a1 < 0) = true := decide_eq_true c5
   clear c5
   (first | rw [c5b0] | (simp only [i64_w, i32_w]; rw [c5b0]) | skip)
   have H' := Am H
   clear H
   go_wp2
   go_meet
   case rel => exact ⟨_, (true), rq, H', ⟨by first | omega | exact Nat.le_refl _⟩, ⟨bl⟩⟩
  ·
   rw [if_neg c5] at H
   have c5b0 : decide (a1 < 0) = false := decide_eq_false c5
   clear c5
   (first | rw [c5b0] | (simp only [i64_w, i32_w]; rw [c5b0]) | skip)
   have H' := Am H
   clear H
   go_wp2
   go_meet
   case rel => exact ⟨_, (decide (a2 < 0)), rq, H', ⟨by first | omega | exact Nat.le_refl _⟩, ⟨bl⟩⟩
 case rest =>
  clear HC4
  try clear p2
  try clear c5
  try clear c5b0
  obtain ⟨kq, x12_3, rfl, HA, HJ3, HB⟩ := hcut
  cases kq with
  | zero => exact absurd HA.out (by simp [expr_Check.j0])
  | succ kj3 =>
   have H := HA.out
   clear HA
   simp only [expr_Check.j0] at H
   by_cases c6 : x12_3 = true
   ·
    subst c6
    have H1 : (some (0, 2)) = some (r1, r2) := by rw [if_pos rfl] at H; exact H
    clear H
    have H := H1
    clear H1
    simp only [Option.some.injEq, Prod.mk.injEq] at H
    obtain ⟨rfl, rfl⟩ := H
    go_wp2
    go_ret2
    exact ⟨xq, bl⟩
   ·
    replace c6 := Bool.eq_false_iff.mpr c6
    subst c6
    have H1 : (if (l0.length : Int) > 31 then (some (0, 4)) else (expr_Check.l0 kj3 l0 a1 a2 0 l0 (l0.length : Int) 0)) = some (r1, r2) := by rw [if_neg (show ¬ (false = true) by decide)] at H; exact H
    clear H
    have H := H1
    clear H1
    by_cases c7 : (l0.length : Int) > 31
    ·
     rw [if_pos c7] at H
     have c7b0 : decide (31 < (l0.length : Int)) = true := decide_eq_true c7
     have c7b1 : decide (31 < l0.length) = true := decide_eq_true (by omega)
     clear c7
     simp only [Option.some.injEq, Prod.mk.injEq] at H
     obtain ⟨rfl, rfl⟩ := H
     go_wp2
     go_ret2
     exact ⟨xq, bl⟩
    ·
     rw [if_neg c7] at H
     have c7b0 : decide (31 < (l0.length : Int)) = false := decide_eq_false c7
     have c7b1 : decide (31 < l0.length) = false := decide_eq_false (by omega)
     clear c7
     have H' := Am H
     clear H
     go_wp2
     go_loopg [8, 25] kj3 (fun kq v8 v25 w' => ∃ (x8_2 : Int) (x25_2 : Int), v8 = .int .i64 x8_2 ∧ v25 = .int .i64 x25_2 ∧ Aside0 (expr_Check.l0 kq l0 a1 a2 x8_2 l0 (l0.length : Int) x25_2 = some (r1, r2)) ∧ Aside0 (kq ≤ kj3) ∧ Aside0 (Below w.heap.size w w'))
     case atStart => exact ⟨(0), (0), rq, rq, H', ⟨Nat.le_refl _⟩, ⟨bl⟩⟩
     case round =>
      clear H'
      try clear p2
      try clear c5
      try clear c5b0
      try clear c6
      try clear c7
      try clear c7b0
      try clear c7b1
      try clear p2
      obtain ⟨x8_2, x25_2, rfl, rfl, HA, HK2, HB⟩ := hrel
      cases gk with
      | zero => exact absurd HA.out (by simp [expr_Check.l0])
      | succ k2 =>
       have H := HA.out
       clear HA
       simp only [expr_Check.l0] at H
       by_cases c8 : x25_2 < (l0.length : Int)
       ·
        rw [if_pos c8] at H
        have c8b0 : decide (x25_2 < (l0.length : Int)) = true := decide_eq_true c8
        clear c8
        by_cases c9 : 0 ≤ x25_2
        ·
         rw [if_pos c9] at H
         have c9b0 : decide (0 ≤ x25_2) = true := decide_eq_true c9
         clear c9
         by_cases c10 : x25_2 < (l0.length : Int)
         ·
          rw [if_pos c10] at H
          have c10b0 : decide (x25_2 < (l0.length : Int)) = true := decide_eq_true c10
          clear c10
          obtain ⟨t158, A110, H⟩ := Option.bind_eq_some_iff.mp H
          try dsimp only at H
          have A11 := Am A110
          clear A110
          by_cases c12 : t158 < 0
          ·
           rw [if_pos c12] at H
           have c12b0 : decide (t158 < 0) = true := decide_eq_true c12
           clear c12
           simp only [Option.some.injEq, Prod.mk.injEq] at H
           obtain ⟨rfl, rfl⟩ := H
           have p156 : 0 ≤ (x25_2 : Int) := of_decide_eq_true az
           have q156 : x25_2 < (l0.length : Int) := of_decide_eq_true az
           obtain ⟨ad156, e156, hx156_0, hx156_1⟩ := at_T71 HR0.out x25_2 p156 q156
           cases e156
           replace hx156_0 := hX HB hx156_0
           replace hx156_1 := hX HB hx156_1
           replace p156 := eq_true p156
           replace q156 := eq_true q156
           go_wp2_with (first | ((with_reducible refine gate_dst (N := 10) rfl ?_); refine bxe (N := 10) (cs := #[.int .i64 0, .int .i64 0]) (t := 71) ?_; intro gb157 hg w13 hbox hb; have n0_ := Am (below_step (bl) hb); have n1_ := Am (hbox); have n2_ := Am ((gE hg : w.heap.size ≤ gb157)); have n3_ := Am ((gE hg : w.heap.size ≤ gb157)); clear HB; have HB := n0_; have BK157 := n1_; have GW157 := n2_; have GE157 := n3_; clear n0_ n1_ n2_ n3_; clear hb hbox hg; have hcz14_0 := cz0 BK157.out; have hcz14_1 := cz1 BK157.out; have hfz14_0 := fz BK157 0; have hfz14_1 := fz BK157 1) | ((with_reducible refine gate_callee (f := 62) rfl ?_); refine goesL_ (some 32) rfl rfl Try.func62 (by kernel_rfl) rfl #[.int .i64 ((rd_T71 l0 x25_2).f0)] rfl aq ?_; (with_reducible refine (expr_takes.calls k2 ((rd_T71 l0 x25_2).f0) t158 _ A11.out).mono ?_); rintro e w' ⟨rfl, ⟨nd, rfl⟩⟩; refine ⟨_, rfl, ?_⟩))
           go_ret2
           exact ⟨xq, bs⟩
          ·
           rw [if_neg c12] at H
           have c12b0 : decide (t158 < 0) = false := decide_eq_false c12
           clear c12
           obtain ⟨t159, A150, H⟩ := Option.bind_eq_some_iff.mp H
           replace H : (if t159 = true then (if x8_2 < t158 then (some (x25_2, 5)) else (expr_Check.l0 k2 l0 a1 a2 (wrap64 (x8_2 + (wrap64 (1 - t158)))) l0 (l0.length : Int) (wrap64 (x25_2 + 1)))) else (some (x25_2, 3))) = some (r1, r2) := H
           have A15 := Am A150
           clear A150
           by_cases c16 : t159 = true
           ·
            subst c16
            have H1 : (if x8_2 < t158 then (some (x25_2, 5)) else (expr_Check.l0 k2 l0 a1 a2 (wrap64 (x8_2 + (wrap64 (1 - t158)))) l0 (l0.length : Int) (wrap64 (x25_2 + 1)))) = some (r1, r2) := by rw [if_pos rfl] at H; exact H
            clear H
            have H := H1
            clear H1
            by_cases c17 : x8_2 < t158
            ·
             rw [if_pos c17] at H
             have c17b0 : decide (x8_2 < t158) = true := decide_eq_true c17
             clear c17
             simp only [Option.some.injEq, Prod.mk.injEq] at H
             obtain ⟨rfl, rfl⟩ := H
             have p156 : 0 ≤ (x25_2 : Int) := of_decide_eq_true az
             have q156 : x25_2 < (l0.length : Int) := of_decide_eq_true az
             obtain ⟨ad156, e156, hx156_0, hx156_1⟩ := at_T71 HR0.out x25_2 p156 q156
             cases e156
             replace hx156_0 := hX HB hx156_0
             replace hx156_1 := hX HB hx156_1
             replace p156 := eq_true p156
             replace q156 := eq_true q156
             go_wp2_with (first | ((with_reducible refine gate_dst (N := 10) rfl ?_); refine bxe (N := 10) (cs := #[.int .i64 0, .int .i64 0]) (t := 71) ?_; intro gb157 hg w18 hbox hb; have n0_ := Am (below_step (bl) hb); have n1_ := Am (hbox); have n2_ := Am ((gE hg : w.heap.size ≤ gb157)); have n3_ := Am ((gE hg : w.heap.size ≤ gb157)); clear HB; have HB := n0_; have BK157 := n1_; have GW157 := n2_; have GE157 := n3_; clear n0_ n1_ n2_ n3_; clear hb hbox hg; have hcz19_0 := cz0 BK157.out; have hcz19_1 := cz1 BK157.out; have hfz19_0 := fz BK157 0; have hfz19_1 := fz BK157 1) | ((with_reducible refine gate_callee (f := 62) rfl ?_); refine goesL_ (some 32) rfl rfl Try.func62 (by kernel_rfl) rfl #[.int .i64 ((rd_T71 l0 x25_2).f0)] rfl aq ?_; (with_reducible refine (expr_takes.calls k2 ((rd_T71 l0 x25_2).f0) t158 _ A11.out).mono ?_); rintro e w' ⟨rfl, ⟨nd, rfl⟩⟩; refine ⟨_, rfl, ?_⟩) | ((with_reducible refine gate_callee (f := 63) rfl ?_); refine goesL_ (some 41) rfl rfl Try.func63 (by kernel_rfl) rfl #[.agg #[.int .i64 ((rd_T71 l0 x25_2).f0), .int .i64 ((rd_T71 l0 x25_2).f1)], .int .i64 a1, .int .i64 a2] rfl aq ?_; (with_reducible refine (expr_named.calls ((rd_T71 l0 x25_2).f0) ((rd_T71 l0 x25_2).f1) a1 a2 true _ A15.out).mono ?_); rintro e w20 ⟨rfl, hb⟩; refine ⟨_, rfl, ?_⟩; have n0_ := Am (blk_below (g := gb157) (o := .cells #[.int .i64 ((rd_T71 l0 x25_2).f0), .int .i64 ((rd_T71 l0 x25_2).f1)] 71 (0, 0)) (by (with_reducible repeat (first | refine blk_drewN ?_ _ | refine blk_drew ?_ | refine blk_alloc ?_ _)); refine blk_put (cs := #[.int .i64 ((rd_T71 l0 x25_2).f0), .int .i64 0]) ?_ 1 _ rfl; (with_reducible repeat (first | refine blk_drewN ?_ _ | refine blk_drew ?_ | refine blk_alloc ?_ _)); refine blk_put (cs := #[.int .i64 0, .int .i64 0]) ?_ 0 _ rfl; (with_reducible repeat (first | refine blk_drewN ?_ _ | refine blk_drew ?_ | refine blk_alloc ?_ _)); exact BK157.out) hb); have n1_ := Am (below_step (bs) hb); clear BK157; clear HB; have BK157 := n0_; have HB := n1_; clear n0_ n1_; (try clear hb); (try clear hb2); (try clear hk); (try clear hi)))
             go_ret2
             exact ⟨xq, bs⟩
            ·
             rw [if_neg c17] at H
             have c17b0 : decide (x8_2 < t158) = false := decide_eq_false c17
             clear c17
             have H' := Am H
             clear H
             have p156 : 0 ≤ (x25_2 : Int) := of_decide_eq_true az
             have q156 : x25_2 < (l0.length : Int) := of_decide_eq_true az
             obtain ⟨ad156, e156, hx156_0, hx156_1⟩ := at_T71 HR0.out x25_2 p156 q156
             cases e156
             replace hx156_0 := hX HB hx156_0
             replace hx156_1 := hX HB hx156_1
             replace p156 := eq_true p156
             replace q156 := eq_true q156
             go_wp2_with (first | ((with_reducible refine gate_dst (N := 10) rfl ?_); refine bxe (N := 10) (cs := #[.int .i64 0, .int .i64 0]) (t := 71) ?_; intro gb157 hg w21 hbox hb; have n0_ := Am (below_step (bl) hb); have n1_ := Am (hbox); have n2_ := Am ((gE hg : w.heap.size ≤ gb157)); have n3_ := Am ((gE hg : w.heap.size ≤ gb157)); clear HB; have HB := n0_; have BK157 := n1_; have GW157 := n2_; have GE157 := n3_; clear n0_ n1_ n2_ n3_; clear hb hbox hg; have hcz22_0 := cz0 BK157.out; have hcz22_1 := cz1 BK157.out; have hfz22_0 := fz BK157 0; have hfz22_1 := fz BK157 1) | ((with_reducible refine gate_callee (f := 62) rfl ?_); refine goesL_ (some 32) rfl rfl Try.func62 (by kernel_rfl) rfl #[.int .i64 ((rd_T71 l0 x25_2).f0)] rfl aq ?_; (with_reducible refine (expr_takes.calls k2 ((rd_T71 l0 x25_2).f0) t158 _ A11.out).mono ?_); rintro e w' ⟨rfl, ⟨nd, rfl⟩⟩; refine ⟨_, rfl, ?_⟩) | ((with_reducible refine gate_callee (f := 63) rfl ?_); refine goesL_ (some 41) rfl rfl Try.func63 (by kernel_rfl) rfl #[.agg #[.int .i64 ((rd_T71 l0 x25_2).f0), .int .i64 ((rd_T71 l0 x25_2).f1)], .int .i64 a1, .int .i64 a2] rfl aq ?_; (with_reducible refine (expr_named.calls ((rd_T71 l0 x25_2).f0) ((rd_T71 l0 x25_2).f1) a1 a2 true _ A15.out).mono ?_); rintro e w23 ⟨rfl, hb⟩; refine ⟨_, rfl, ?_⟩; have n0_ := Am (blk_below (g := gb157) (o := .cells #[.int .i64 ((rd_T71 l0 x25_2).f0), .int .i64 ((rd_T71 l0 x25_2).f1)] 71 (0, 0)) (by (with_reducible repeat (first | refine blk_drewN ?_ _ | refine blk_drew ?_ | refine blk_alloc ?_ _)); refine blk_put (cs := #[.int .i64 ((rd_T71 l0 x25_2).f0), .int .i64 0]) ?_ 1 _ rfl; (with_reducible repeat (first | refine blk_drewN ?_ _ | refine blk_drew ?_ | refine blk_alloc ?_ _)); refine blk_put (cs := #[.int .i64 0, .int .i64 0]) ?_ 0 _ rfl; (with_reducible repeat (first | refine blk_drewN ?_ _ | refine blk_drew ?_ | refine blk_alloc ?_ _)); exact BK157.out) hb); have n1_ := Am (below_step (bs) hb); clear BK157; clear HB; have BK157 := n0_; have HB := n1_; clear n0_ n1_; (try clear hb); (try clear hb2); (try clear hk); (try clear hi)))
             go_roundg k2
             case measure => have := HJ3.out; have := HK2.out; omega
             case rel => exact ⟨(wrap64 (x8_2 + (wrap64 (1 - t158)))), (wrap64 (x25_2 + 1)), rq, rq, H', ⟨by have := HJ3.out; have := HK2.out; omega⟩, ⟨bs⟩⟩
           ·
            replace c16 := Bool.eq_false_iff.mpr c16
            subst c16
            have H1 : (some (x25_2, 3)) = some (r1, r2) := by rw [if_neg (show ¬ (false = true) by decide)] at H; exact H
            clear H
            have H := H1
            clear H1
            simp only [Option.some.injEq, Prod.mk.injEq] at H
            obtain ⟨rfl, rfl⟩ := H
            have p156 : 0 ≤ (x25_2 : Int) := of_decide_eq_true az
            have q156 : x25_2 < (l0.length : Int) := of_decide_eq_true az
            obtain ⟨ad156, e156, hx156_0, hx156_1⟩ := at_T71 HR0.out x25_2 p156 q156
            cases e156
            replace hx156_0 := hX HB hx156_0
            replace hx156_1 := hX HB hx156_1
            replace p156 := eq_true p156
            replace q156 := eq_true q156
            go_wp2_with (first | ((with_reducible refine gate_dst (N := 10) rfl ?_); refine bxe (N := 10) (cs := #[.int .i64 0, .int .i64 0]) (t := 71) ?_; intro gb157 hg w24 hbox hb; have n0_ := Am (below_step (bl) hb); have n1_ := Am (hbox); have n2_ := Am ((gE hg : w.heap.size ≤ gb157)); have n3_ := Am ((gE hg : w.heap.size ≤ gb157)); clear HB; have HB := n0_; have BK157 := n1_; have GW157 := n2_; have GE157 := n3_; clear n0_ n1_ n2_ n3_; clear hb hbox hg; have hcz25_0 := cz0 BK157.out; have hcz25_1 := cz1 BK157.out; have hfz25_0 := fz BK157 0; have hfz25_1 := fz BK157 1) | ((with_reducible refine gate_callee (f := 62) rfl ?_); refine goesL_ (some 32) rfl rfl Try.func62 (by kernel_rfl) rfl #[.int .i64 ((rd_T71 l0 x25_2).f0)] rfl aq ?_; (with_reducible refine (expr_takes.calls k2 ((rd_T71 l0 x25_2).f0) t158 _ A11.out).mono ?_); rintro e w' ⟨rfl, ⟨nd, rfl⟩⟩; refine ⟨_, rfl, ?_⟩) | ((with_reducible refine gate_callee (f := 63) rfl ?_); refine goesL_ (some 41) rfl rfl Try.func63 (by kernel_rfl) rfl #[.agg #[.int .i64 ((rd_T71 l0 x25_2).f0), .int .i64 ((rd_T71 l0 x25_2).f1)], .int .i64 a1, .int .i64 a2] rfl aq ?_; (with_reducible refine (expr_named.calls ((rd_T71 l0 x25_2).f0) ((rd_T71 l0 x25_2).f1) a1 a2 false _ A15.out).mono ?_); rintro e w26 ⟨rfl, hb⟩; refine ⟨_, rfl, ?_⟩; have n0_ := Am (blk_below (g := gb157) (o := .cells #[.int .i64 ((rd_T71 l0 x25_2).f0), .int .i64 ((rd_T71 l0 x25_2).f1)] 71 (0, 0)) (by (with_reducible repeat (first | refine blk_drewN ?_ _ | refine blk_drew ?_ | refine blk_alloc ?_ _)); refine blk_put (cs := #[.int .i64 ((rd_T71 l0 x25_2).f0), .int .i64 0]) ?_ 1 _ rfl; (with_reducible repeat (first | refine blk_drewN ?_ _ | refine blk_drew ?_ | refine blk_alloc ?_ _)); refine blk_put (cs := #[.int .i64 0, .int .i64 0]) ?_ 0 _ rfl; (with_reducible repeat (first | refine blk_drewN ?_ _ | refine blk_drew ?_ | refine blk_alloc ?_ _)); exact BK157.out) hb); have n1_ := Am (below_step (bs) hb); clear BK157; clear HB; have BK157 := n0_; have HB := n1_; clear n0_ n1_; (try clear hb); (try clear hb2); (try clear hk); (try clear hi)))
            go_ret2
            exact ⟨xq, bs⟩
         ·
          rw [if_neg c10] at H
          exact absurd H (by simp)
        ·
         rw [if_neg c9] at H
         exact absurd H (by simp)
       ·
        rw [if_neg c8] at H
        have c8b0 : decide (x25_2 < (l0.length : Int)) = false := decide_eq_false c8
        clear c8
        by_cases c27 : x8_2 = 1
        ·
         rw [if_pos c27] at H
         have c27b0 : (x8_2 == 1) = true := beq_iff_eq.mpr c27
         have c27b1 : (x8_2 != 1) = false := bne_eq_false_iff_eq.mpr c27
         clear c27
         simp only [Option.some.injEq, Prod.mk.injEq] at H
         obtain ⟨rfl, rfl⟩ := H
         go_wp2
         go_ret2
         exact ⟨xq, bl⟩
        ·
         rw [if_neg c27] at H
         have c27b0 : (x8_2 == 1) = false := beq_eq_false_iff_ne.mpr c27
         have c27b1 : (x8_2 != 1) = true := bne_iff_ne.mpr c27
         simp only [Option.some.injEq, Prod.mk.injEq] at H
         obtain ⟨rfl, rfl⟩ := H
         go_wp2
         go_ret2
         exact ⟨xq, bl⟩

/-! ### rules_guards: function 49 -/
mutual
def rules_guards.l0 : Nat → Int → Int → List (S66) → Int → Int → Option (Int × Int)
 | 0, _, _, _, _, _ => none
 | k + 1, x1, x2, x15, x16, x17 => if x17 < x16 then (if 0 ≤ x17 then (if x17 < (x15.length : Int) then (if ((rd_T66 x15 x17).f0) < 16 then (rules_guards.j1 k x1 x2 x17 x15 x16 x17 true ((rd_T66 x15 x17).f0) ((rd_T66 x15 x17).f1)) else (rules_guards.j1 k x1 x2 x17 x15 x16 x17 (decide (((rd_T66 x15 x17).f0) > 63)) ((rd_T66 x15 x17).f0) ((rd_T66 x15 x17).f1))) else (none)) else (none)) else (some (0, 0))
def rules_guards.j1 : Nat → Int → Int → Int → List (S66) → Int → Int → Bool → Int → List (S71) → Option (Int × Int)
 | 0, _, _, _, _, _, _, _, _, _ => none
 | k + 1, x1, x2, x8, x15, x16, x17, x29, x162000, x162001 => if x29 = true then (some (x8, 3)) else ((expr_Check.f k x162001 x1 x2).bind fun bt162 => (if bt162.2 = 0 then (rules_guards.l0 k x1 x2 x15 x16 (wrap64 (x17 + 1))) else (some (x8, bt162.2))))
end
def rules_guards.f (k : Nat) (l0 : List (S66)) (a1 : Int) (a2 : Int) : Option (Int × Int) := if (l0.length : Int) > 4 then (some (0, 4)) else (rules_guards.l0 k a1 a2 l0 (l0.length : Int) 0)
theorem rules_guards.mono_l : ∀ k, (∀ y0 y1 y2 y3 y4, LeO (rules_guards.l0 k y0 y1 y2 y3 y4) (rules_guards.l0 (k + 1) y0 y1 y2 y3 y4)) ∧ (∀ y0 y1 y2 y3 y4 y5 y6 y7 y8, LeO (rules_guards.j1 k y0 y1 y2 y3 y4 y5 y6 y7 y8) (rules_guards.j1 (k + 1) y0 y1 y2 y3 y4 y5 y6 y7 y8))
 | 0 => ⟨fun _ _ _ _ _ r h => by simp [rules_guards.l0] at h, fun _ _ _ _ _ _ _ _ _ r h => by simp [rules_guards.j1] at h⟩
 | k + 1 => by
  obtain ⟨ih0, ih1⟩ := rules_guards.mono_l k
  refine ⟨?_, ?_⟩
  ·
   intro y0 y1 y2 y3 y4
   unfold rules_guards.l0
   repeat' first
   | (with_reducible exact ih0 _ _ _ _ _)
   | (with_reducible exact ih1 _ _ _ _ _ _ _ _ _)
   | (with_reducible exact expr_Check.mono _ _ _ _)
   | (with_reducible exact LeO.refl _)
   | (with_reducible exact LeO.none _)
   | (with_reducible refine LeO.ite ?_ ?_)
   | (with_reducible refine LeO.bind ?_ (fun _ => ?_))
   | exact ih0 _ _ _ _ _
   | exact ih1 _ _ _ _ _ _ _ _ _
   | exact expr_Check.mono _ _ _ _
   | exact LeO.none _
   | refine LeO.ite ?_ ?_
   | refine LeO.bind ?_ (fun _ => ?_)
  ·
   intro y0 y1 y2 y3 y4 y5 y6 y7 y8
   unfold rules_guards.j1
   repeat' first
   | (with_reducible exact ih0 _ _ _ _ _)
   | (with_reducible exact ih1 _ _ _ _ _ _ _ _ _)
   | (with_reducible exact expr_Check.mono _ _ _ _)
   | (with_reducible exact LeO.refl _)
   | (with_reducible exact LeO.none _)
   | (with_reducible refine LeO.ite ?_ ?_)
   | (with_reducible refine LeO.bind ?_ (fun _ => ?_))
   | exact ih0 _ _ _ _ _
   | exact ih1 _ _ _ _ _ _ _ _ _
   | exact expr_Check.mono _ _ _ _
   | exact LeO.none _
   | refine LeO.ite ?_ ?_
   | refine LeO.bind ?_ (fun _ => ?_)
theorem rules_guards.mono : ∀ a0 a1 a2 k, LeO (rules_guards.f k a0 a1 a2) (rules_guards.f (k + 1) a0 a1 a2) := by
 intro a0 a1 a2 k
 obtain ⟨ih0, ih1⟩ := rules_guards.mono_l k
 unfold rules_guards.f
 repeat' first
   | (with_reducible exact ih0 _ _ _ _ _)
   | (with_reducible exact ih1 _ _ _ _ _ _ _ _ _)
   | (with_reducible exact expr_Check.mono _ _ _ _)
   | (with_reducible exact LeO.refl _)
   | (with_reducible exact LeO.none _)
   | (with_reducible refine LeO.ite ?_ ?_)
   | (with_reducible refine LeO.bind ?_ (fun _ => ?_))
   | exact ih0 _ _ _ _ _
   | exact ih1 _ _ _ _ _ _ _ _ _
   | exact expr_Check.mono _ _ _ _
   | exact LeO.none _
   | refine LeO.ite ?_ ?_
   | refine LeO.bind ?_ (fun _ => ?_)
set_option maxHeartbeats 8000000 in
set_option maxRecDepth 100000 in
theorem rules_guards.calls (k : Nat) (A0 : Option Addr) (c0 : Nat) (l0 : List (S66)) (a1 : Int) (a2 : Int) (r1 : Int) (r2 : Int) (w : World) (hr0 : Kd.C k66 w A0 l0.length l0) (hc0 : l0.length ≤ c0) (h : rules_guards.f k l0 a1 a2 = some (r1, r2)) :
  Calls Try.prog 49 #[.slice A0 l0.length c0, .int .i64 a1, .int .i64 a2] w fun e w' => e = .returned (.tuple #[.int .i64 r1, .int .i64 r2]) ∧ Below w.heap.size w w' := by
 have hu66 := Try.underlying66
 have HR0 := Am hr0
 have HC0 := Am hc0
 clear hr0 hc0
 have HB := Am (Below.refl w.heap.size w)
 have H : (if (l0.length : Int) > 4 then (some (0, 4)) else (rules_guards.l0 k a1 a2 l0 (l0.length : Int) 0)) = some (r1, r2) := h
 clear h
 by_cases c4 : (l0.length : Int) > 4
 ·
  rw [if_pos c4] at H
  have c4b0 : decide (4 < (l0.length : Int)) = true := decide_eq_true c4
  have c4b1 : decide (4 < l0.length) = true := decide_eq_true (by omega)
  clear c4
  simp only [Option.some.injEq, Prod.mk.injEq] at H
  obtain ⟨rfl, rfl⟩ := H
  go_enter Try.func49, Try.ntmps49
  go_wp2
  go_ret2
  exact ⟨xq, bl⟩
 ·
  rw [if_neg c4] at H
  have c4b0 : decide (4 < (l0.length : Int)) = false := decide_eq_false c4
  have c4b1 : decide (4 < l0.length) = false := decide_eq_false (by omega)
  clear c4
  have H' := Am H
  clear H
  go_enter Try.func49, Try.ntmps49
  go_wp2
  go_loopg [17] k (fun kq v17 w' => ∃ (x17_1 : Int), v17 = .int .i64 x17_1 ∧ Aside0 (rules_guards.l0 kq a1 a2 l0 (l0.length : Int) x17_1 = some (r1, r2)) ∧ Aside0 (kq ≤ k) ∧ Aside0 (Below w.heap.size w w'))
  case atStart => exact ⟨(0), rq, H', ⟨Nat.le_refl _⟩, ⟨bl⟩⟩
  case round =>
   clear H'
   try clear p2
   try clear c4
   try clear c4b0
   try clear c4b1
   obtain ⟨x17_1, rfl, HA, HK1, HB⟩ := hrel
   cases gk with
   | zero => exact absurd HA.out (by simp [rules_guards.l0])
   | succ k1 =>
    have H := HA.out
    clear HA
    simp only [rules_guards.l0] at H
    by_cases c5 : x17_1 < (l0.length : Int)
    ·
     rw [if_pos c5] at H
     have c5b0 : decide (x17_1 < (l0.length : Int)) = true := decide_eq_true c5
     clear c5
     by_cases c6 : 0 ≤ x17_1
     ·
      rw [if_pos c6] at H
      have c6b0 : decide (0 ≤ x17_1) = true := decide_eq_true c6
      clear c6
      by_cases c7 : x17_1 < (l0.length : Int)
      ·
       rw [if_pos c7] at H
       have c7b0 : decide (x17_1 < (l0.length : Int)) = true := decide_eq_true c7
       clear c7
       have HC8 := Am H
       clear H
       have p160 : 0 ≤ (x17_1 : Int) := of_decide_eq_true az
       have q160 : x17_1 < (l0.length : Int) := of_decide_eq_true az
       obtain ⟨ad160, A160_1, c160_1, e160, hx160_0, hx160_1, hl160_1, hi160_1⟩ := at_T66 HR0.out x17_1 p160 q160
       cases e160
       replace hx160_0 := hX HB hx160_0
       replace hx160_1 := hX HB hx160_1
       have HR160_1 := Am hi160_1
       have HC160_1 := Am hl160_1
       clear hi160_1 hl160_1
       replace p160 := eq_true p160
       replace q160 := eq_true q160
       go_upto_region 6 with (first | ((with_reducible refine gate_dst (N := 9) rfl ?_); refine bxe (N := 9) (cs := #[.int .i64 0, .slice none 0 0]) (t := 66) ?_; intro gb161 hg w9 hbox hb; have n0_ := Am (below_step (bl) hb); have n1_ := Am (hbox); have n2_ := Am ((gE hg : w.heap.size ≤ gb161)); have n3_ := Am ((gE hg : w.heap.size ≤ gb161)); clear HB; have HB := n0_; have BK161 := n1_; have GW161 := n2_; have GE161 := n3_; clear n0_ n1_ n2_ n3_; clear hb hbox hg; have hcz10_0 := cz0 BK161.out; have hcz10_1 := cz1 BK161.out; have hfz10_0 := fz BK161 0; have hfz10_1 := fz BK161 1))
       (try simp only [Act.put, List.setIfInBounds_toArray, List.set_cons_zero, List.set_cons_succ])
       go_cut [29] (fun v29 wc => ∃ (kq : Nat) (x29_7 : Bool), v29 = .bool x29_7 ∧ Aside0 (rules_guards.j1 kq a1 a2 x17_1 l0 (l0.length : Int) x17_1 x29_7 ((rd_T66 l0 x17_1).f0) ((rd_T66 l0 x17_1).f1) = some (r1, r2)) ∧ Aside0 (kq ≤ k1) ∧ Aside0 (wc.heap[gb161]? = some (.cells #[.int .i64 ((rd_T66 l0 x17_1).f0), (.slice A160_1 ((rd_T66 l0 x17_1).f1).length c160_1)] 66 (0, 0))) ∧ Aside0 (Below w.heap.size w wc))
       case first =>
        have H := HC8.out
        clear HC8
        by_cases c11 : ((rd_T66 l0 x17_1).f0) < 16
        ·
         rw [if_pos c11] at H
         have c11b0 : decide (((rd_T66 l0 x17_1).f0) < 16) = true := decide_eq_true c11
         clear c11
         (first | rw [c11b0] | (simp only [i64_w, i32_w]; rw [c11b0]) | skip)
         have H' := Am H
         clear H
         have hcz12_0 := cz0 BK161.out
         have hcz12_1 := cz1 BK161.out
         have hfz12_0 := fz BK161 0
         have hfz12_1 := fz BK161 1
         go_wp2
         go_meet
         case rel => exact ⟨_, (true), rq, H', ⟨by have := HK1.out; first | omega | exact Nat.le_refl _⟩, ⟨by (with_reducible repeat (first | refine blk_drewN ?_ _ | refine blk_drew ?_ | refine blk_alloc ?_ _)); refine blk_put (cs := #[.int .i64 ((rd_T66 l0 x17_1).f0), .slice none 0 0]) ?_ 1 _ rfl; (with_reducible repeat (first | refine blk_drewN ?_ _ | refine blk_drew ?_ | refine blk_alloc ?_ _)); refine blk_put (cs := #[.int .i64 0, .slice none 0 0]) ?_ 0 _ rfl; (with_reducible repeat (first | refine blk_drewN ?_ _ | refine blk_drew ?_ | refine blk_alloc ?_ _)); exact BK161.out⟩, ⟨bs⟩⟩
        ·
         rw [if_neg c11] at H
         have c11b0 : decide (((rd_T66 l0 x17_1).f0) < 16) = false := decide_eq_false c11
         clear c11
         (first | rw [c11b0] | (simp only [i64_w, i32_w]; rw [c11b0]) | skip)
         have H' := Am H
         clear H
         have hcz13_0 := cz0 BK161.out
         have hcz13_1 := cz1 BK161.out
         have hfz13_0 := fz BK161 0
         have hfz13_1 := fz BK161 1
         go_wp2
         go_meet
         case rel => exact ⟨_, (decide (((rd_T66 l0 x17_1).f0) > 63)), rq, H', ⟨by have := HK1.out; first | omega | exact Nat.le_refl _⟩, ⟨by (with_reducible repeat (first | refine blk_drewN ?_ _ | refine blk_drew ?_ | refine blk_alloc ?_ _)); refine blk_put (cs := #[.int .i64 ((rd_T66 l0 x17_1).f0), .slice none 0 0]) ?_ 1 _ rfl; (with_reducible repeat (first | refine blk_drewN ?_ _ | refine blk_drew ?_ | refine blk_alloc ?_ _)); refine blk_put (cs := #[.int .i64 0, .slice none 0 0]) ?_ 0 _ rfl; (with_reducible repeat (first | refine blk_drewN ?_ _ | refine blk_drew ?_ | refine blk_alloc ?_ _)); exact BK161.out⟩, ⟨bs⟩⟩
       case rest =>
        clear HC8
        try clear c1
        try clear p1
        try clear q1
        try clear hx1
        try clear p2
        try clear c4
        try clear c4b0
        try clear c4b1
        try clear c5
        try clear c5b0
        try clear c6
        try clear c6b0
        try clear c7
        try clear c7b0
        try clear c11
        try clear c11b0
        try clear hcz10_0
        try clear hcz10_1
        try clear hcz12_0
        try clear hcz12_1
        try clear hcz13_0
        try clear hcz13_1
        try clear hfz10_0
        try clear hfz10_1
        try clear hfz12_0
        try clear hfz12_1
        try clear hfz13_0
        try clear hfz13_1
        try clear hx160_0
        try clear hx160_1
        try clear p160
        try clear p2
        try clear q160
        obtain ⟨kq, x29_7, rfl, HA, HJ7, BK161, HB⟩ := hcut
        cases kq with
        | zero => exact absurd HA.out (by simp [rules_guards.j1])
        | succ kj7 =>
         have H := HA.out
         clear HA
         simp only [rules_guards.j1] at H
         by_cases c14 : x29_7 = true
         ·
          subst c14
          have H1 : (some (x17_1, 3)) = some (r1, r2) := by rw [if_pos rfl] at H; exact H
          clear H
          have H := H1
          clear H1
          simp only [Option.some.injEq, Prod.mk.injEq] at H
          obtain ⟨rfl, rfl⟩ := H
          go_wp2
          go_ret2
          exact ⟨xq, bs⟩
         ·
          replace c14 := Bool.eq_false_iff.mpr c14
          subst c14
          have H1 : ((expr_Check.f kj7 ((rd_T66 l0 x17_1).f1) a1 a2).bind fun bt162 => (if bt162.2 = 0 then (rules_guards.l0 kj7 a1 a2 l0 (l0.length : Int) (wrap64 (x17_1 + 1))) else (some (x17_1, bt162.2)))) = some (r1, r2) := by rw [if_neg (show ¬ (false = true) by decide)] at H; exact H
          clear H
          have H := H1
          clear H1
          obtain ⟨⟨t162, t163⟩, A150, H⟩ := Option.bind_eq_some_iff.mp H
          replace H : (if t163 = 0 then (rules_guards.l0 kj7 a1 a2 l0 (l0.length : Int) (wrap64 (x17_1 + 1))) else (some (x17_1, t163))) = some (r1, r2) := H
          have A15 := Am A150
          clear A150
          by_cases c16 : t163 = 0
          ·
           rw [if_pos c16] at H
           have c16b0 : (t163 == 0) = true := beq_iff_eq.mpr c16
           have c16b1 : (t163 != 0) = false := bne_eq_false_iff_eq.mpr c16
           clear c16
           have H' := Am H
           clear H
           have hcz17_0 := cz0 BK161.out
           have hcz17_1 := cz1 BK161.out
           have hfz17_0 := fz BK161 0
           have hfz17_1 := fz BK161 1
           go_wp2_with (first | ((with_reducible refine gate_callee (f := 59) rfl ?_); refine goesL_ (some 36) rfl rfl Try.func59 (by kernel_rfl) rfl #[.slice A160_1 ((rd_T66 l0 x17_1).f1).length c160_1, .int .i64 a1, .int .i64 a2] rfl aq ?_; (with_reducible refine (expr_Check.calls kj7 _ _ ((rd_T66 l0 x17_1).f1) a1 a2 t162 t163 _ ?side1 ?side2 A15.out).mono ?_); (case side1 => exact kC HR160_1); (case side2 => exact HC160_1.out); rintro e w18 ⟨rfl, hb⟩; refine ⟨_, rfl, ?_⟩; have n0_ := Am (blk_below (kB BK161) hb); have n1_ := Am (below_step (bs) hb); clear BK161; clear HB; have BK161 := n0_; have HB := n1_; clear n0_ n1_; (try clear hb); (try clear hb2); (try clear hk); (try clear hi)))
           go_roundg kj7
           case measure => have := HK1.out; have := HJ7.out; omega
           case rel => exact ⟨(wrap64 (x17_1 + 1)), rq, H', ⟨by have := HK1.out; have := HJ7.out; omega⟩, ⟨bs⟩⟩
          ·
           rw [if_neg c16] at H
           have c16b0 : (t163 == 0) = false := beq_eq_false_iff_ne.mpr c16
           have c16b1 : (t163 != 0) = true := bne_iff_ne.mpr c16
           simp only [Option.some.injEq, Prod.mk.injEq] at H
           obtain ⟨rfl, rfl⟩ := H
           have hcz19_0 := cz0 BK161.out
           have hcz19_1 := cz1 BK161.out
           have hfz19_0 := fz BK161 0
           have hfz19_1 := fz BK161 1
           go_wp2_with (first | ((with_reducible refine gate_callee (f := 59) rfl ?_); refine goesL_ (some 36) rfl rfl Try.func59 (by kernel_rfl) rfl #[.slice A160_1 ((rd_T66 l0 x17_1).f1).length c160_1, .int .i64 a1, .int .i64 a2] rfl aq ?_; (with_reducible refine (expr_Check.calls kj7 _ _ ((rd_T66 l0 x17_1).f1) a1 a2 t162 t163 _ ?side1 ?side2 A15.out).mono ?_); (case side1 => exact kC HR160_1); (case side2 => exact HC160_1.out); rintro e w20 ⟨rfl, hb⟩; refine ⟨_, rfl, ?_⟩; have n0_ := Am (blk_below (kB BK161) hb); have n1_ := Am (below_step (bs) hb); clear BK161; clear HB; have BK161 := n0_; have HB := n1_; clear n0_ n1_; (try clear hb); (try clear hb2); (try clear hk); (try clear hi)))
           go_ret2
           exact ⟨xq, bs⟩
      ·
       rw [if_neg c7] at H
       exact absurd H (by simp)
     ·
      rw [if_neg c6] at H
      exact absurd H (by simp)
    ·
     rw [if_neg c5] at H
     have c5b0 : decide (x17_1 < (l0.length : Int)) = false := decide_eq_false c5
     clear c5
     simp only [Option.some.injEq, Prod.mk.injEq] at H
     obtain ⟨rfl, rfl⟩ := H
     go_wp2
     go_ret2
     exact ⟨xq, bl⟩

end Go.Proofs.Ytdfhbmallnegfaa.PA
