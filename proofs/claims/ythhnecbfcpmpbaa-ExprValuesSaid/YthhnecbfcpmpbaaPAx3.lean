-- Written by a program (wip/tools/gprint.py: a patched copy of the kit's print) and by hand, for this claim
import Derived.Test.YthhnecbfcpmpbaaPAx0
import Derived.Test.YthhnecbfcpmpbaaPAx2
namespace Go.Proofs.Ythhnecbfcpmpbaa.PA
open Go.RowKit Go.Proofs.YthhnecbfcpmpbaaW.PrintWords Go.Proofs.YthhnecbfcpmpbaaW.PrintLast Go.Proofs.YthhnecbfcpmpbaaW.PrintMore
attribute [local go_sem] max2_int min2_int max_two min_two max_three min_three max_four min_four   -- for this text's walks alone
set_option linter.unusedVariables false
set_option linter.unusedSimpArgs false

/-! ### surmiseref03_Check: function 9 -/
mutual
def surmiseref03_Check.j0 : Nat → List (S45) → Int → Int → Bool → Option (Int × Int)
 | 0, _, _, _, _ => none
 | k + 1, x0, x1, x2, x17 => if x17 = true then (some (0, 2)) else (if (x0.length : Int) > 31 then (some (0, 4)) else (surmiseref03_Check.l0 k x0 x1 x2 0 0))
def surmiseref03_Check.l0 : Nat → List (S45) → Int → Int → Int → Int → Option (Int × Int)
 | 0, _, _, _, _, _ => none
 | k + 1, x0, x1, x2, x8, x9 => if x9 < (x0.length : Int) then (if 0 ≤ x9 then ((surmiseref03_Takes.f ((rd_T45 x0 x9).f0)).bind fun t113 => (if t113 < 0 then (some (x9, 2)) else (if ((rd_T45 x0 x9).f0) = 1 then ((surmiseref03_Value.f ((rd_T45 x0 x9).f1)).bind fun t114 => (surmiseref03_Check.j2 k x0 x1 x2 x8 x9 t114 ((rd_T45 x0 x9).f0) ((rd_T45 x0 x9).f1))) else (surmiseref03_Check.j2 k x0 x1 x2 x8 x9 (((rd_T45 x0 x9).f1) == 0) ((rd_T45 x0 x9).f0) ((rd_T45 x0 x9).f1))))) else (none)) else (if x8 = 1 then (some (0, 0)) else (some ((x0.length : Int), 6)))
def surmiseref03_Check.j2 : Nat → List (S45) → Int → Int → Int → Int → Bool → Int → Int → Option (Int × Int)
 | 0, _, _, _, _, _, _, _, _ => none
 | k + 1, x0, x1, x2, x8, x9, x11, x113000, x113001 => if x113000 = 2 then (if x113001 ≥ 0 then (surmiseref03_Check.j3 k x0 x1 x2 x8 x9 (decide (x113001 < x1)) x113000 x113001) else (surmiseref03_Check.j3 k x0 x1 x2 x8 x9 false x113000 x113001)) else (surmiseref03_Check.j3 k x0 x1 x2 x8 x9 x11 x113000 x113001)
def surmiseref03_Check.j3 : Nat → List (S45) → Int → Int → Int → Int → Bool → Int → Int → Option (Int × Int)
 | 0, _, _, _, _, _, _, _, _ => none
 | k + 1, x0, x1, x2, x8, x9, x11, x113000, x113001 => if x113000 = 3 then (if x113001 ≥ 0 then (surmiseref03_Check.j4 k x0 x1 x2 x8 x9 (decide (x113001 < x2)) x113000 x113001) else (surmiseref03_Check.j4 k x0 x1 x2 x8 x9 false x113000 x113001)) else (surmiseref03_Check.j4 k x0 x1 x2 x8 x9 x11 x113000 x113001)
def surmiseref03_Check.j4 : Nat → List (S45) → Int → Int → Int → Int → Bool → Int → Int → Option (Int × Int)
 | 0, _, _, _, _, _, _, _, _ => none
 | k + 1, x0, x1, x2, x8, x9, x11, x113000, x113001 => if x11 = true then ((surmiseref03_Takes.f x113000).bind fun t115 => (if t115 > x8 then (some (x9, 5)) else ((surmiseref03_Takes.f x113000).bind fun t116 => (surmiseref03_Check.l0 k x0 x1 x2 (wrap64 ((wrap64 (x8 - t116)) + 1)) (wrap64 (x9 + 1)))))) else (some (x9, 3))
end
def surmiseref03_Check.f (k : Nat) (l0 : List (S45)) (a1 : Int) (a2 : Int) : Option (Int × Int) := if a1 < 0 then (surmiseref03_Check.j0 k l0 a1 a2 true) else (surmiseref03_Check.j0 k l0 a1 a2 (decide (a2 < 0)))
theorem surmiseref03_Check.mono_l : ∀ k, (∀ y0 y1 y2 y3, LeO (surmiseref03_Check.j0 k y0 y1 y2 y3) (surmiseref03_Check.j0 (k + 1) y0 y1 y2 y3)) ∧ (∀ y0 y1 y2 y3 y4, LeO (surmiseref03_Check.l0 k y0 y1 y2 y3 y4) (surmiseref03_Check.l0 (k + 1) y0 y1 y2 y3 y4)) ∧ (∀ y0 y1 y2 y3 y4 y5 y6 y7, LeO (surmiseref03_Check.j2 k y0 y1 y2 y3 y4 y5 y6 y7) (surmiseref03_Check.j2 (k + 1) y0 y1 y2 y3 y4 y5 y6 y7)) ∧ (∀ y0 y1 y2 y3 y4 y5 y6 y7, LeO (surmiseref03_Check.j3 k y0 y1 y2 y3 y4 y5 y6 y7) (surmiseref03_Check.j3 (k + 1) y0 y1 y2 y3 y4 y5 y6 y7)) ∧ (∀ y0 y1 y2 y3 y4 y5 y6 y7, LeO (surmiseref03_Check.j4 k y0 y1 y2 y3 y4 y5 y6 y7) (surmiseref03_Check.j4 (k + 1) y0 y1 y2 y3 y4 y5 y6 y7))
 | 0 => ⟨fun _ _ _ _ r h => by simp [surmiseref03_Check.j0] at h, fun _ _ _ _ _ r h => by simp [surmiseref03_Check.l0] at h, fun _ _ _ _ _ _ _ _ r h => by simp [surmiseref03_Check.j2] at h, fun _ _ _ _ _ _ _ _ r h => by simp [surmiseref03_Check.j3] at h, fun _ _ _ _ _ _ _ _ r h => by simp [surmiseref03_Check.j4] at h⟩
 | k + 1 => by
  obtain ⟨ih0, ih1, ih2, ih3, ih4⟩ := surmiseref03_Check.mono_l k
  refine ⟨?_, ?_, ?_, ?_, ?_⟩
  ·
   intro y0 y1 y2 y3
   unfold surmiseref03_Check.j0
   repeat' first
   | (with_reducible exact ih0 _ _ _ _)
   | (with_reducible exact ih1 _ _ _ _ _)
   | (with_reducible exact ih2 _ _ _ _ _ _ _ _)
   | (with_reducible exact ih3 _ _ _ _ _ _ _ _)
   | (with_reducible exact ih4 _ _ _ _ _ _ _ _)
   | (with_reducible exact LeO.refl _)
   | (with_reducible exact LeO.none _)
   | (with_reducible refine LeO.ite ?_ ?_)
   | (with_reducible refine LeO.bind ?_ (fun _ => ?_))
   | exact ih0 _ _ _ _
   | exact ih1 _ _ _ _ _
   | exact ih2 _ _ _ _ _ _ _ _
   | exact ih3 _ _ _ _ _ _ _ _
   | exact ih4 _ _ _ _ _ _ _ _
   | exact LeO.none _
   | refine LeO.ite ?_ ?_
   | refine LeO.bind ?_ (fun _ => ?_)
  ·
   intro y0 y1 y2 y3 y4
   unfold surmiseref03_Check.l0
   repeat' first
   | (with_reducible exact ih0 _ _ _ _)
   | (with_reducible exact ih1 _ _ _ _ _)
   | (with_reducible exact ih2 _ _ _ _ _ _ _ _)
   | (with_reducible exact ih3 _ _ _ _ _ _ _ _)
   | (with_reducible exact ih4 _ _ _ _ _ _ _ _)
   | (with_reducible exact LeO.refl _)
   | (with_reducible exact LeO.none _)
   | (with_reducible refine LeO.ite ?_ ?_)
   | (with_reducible refine LeO.bind ?_ (fun _ => ?_))
   | exact ih0 _ _ _ _
   | exact ih1 _ _ _ _ _
   | exact ih2 _ _ _ _ _ _ _ _
   | exact ih3 _ _ _ _ _ _ _ _
   | exact ih4 _ _ _ _ _ _ _ _
   | exact LeO.none _
   | refine LeO.ite ?_ ?_
   | refine LeO.bind ?_ (fun _ => ?_)
  ·
   intro y0 y1 y2 y3 y4 y5 y6 y7
   unfold surmiseref03_Check.j2
   repeat' first
   | (with_reducible exact ih0 _ _ _ _)
   | (with_reducible exact ih1 _ _ _ _ _)
   | (with_reducible exact ih2 _ _ _ _ _ _ _ _)
   | (with_reducible exact ih3 _ _ _ _ _ _ _ _)
   | (with_reducible exact ih4 _ _ _ _ _ _ _ _)
   | (with_reducible exact LeO.refl _)
   | (with_reducible exact LeO.none _)
   | (with_reducible refine LeO.ite ?_ ?_)
   | (with_reducible refine LeO.bind ?_ (fun _ => ?_))
   | exact ih0 _ _ _ _
   | exact ih1 _ _ _ _ _
   | exact ih2 _ _ _ _ _ _ _ _
   | exact ih3 _ _ _ _ _ _ _ _
   | exact ih4 _ _ _ _ _ _ _ _
   | exact LeO.none _
   | refine LeO.ite ?_ ?_
   | refine LeO.bind ?_ (fun _ => ?_)
  ·
   intro y0 y1 y2 y3 y4 y5 y6 y7
   unfold surmiseref03_Check.j3
   repeat' first
   | (with_reducible exact ih0 _ _ _ _)
   | (with_reducible exact ih1 _ _ _ _ _)
   | (with_reducible exact ih2 _ _ _ _ _ _ _ _)
   | (with_reducible exact ih3 _ _ _ _ _ _ _ _)
   | (with_reducible exact ih4 _ _ _ _ _ _ _ _)
   | (with_reducible exact LeO.refl _)
   | (with_reducible exact LeO.none _)
   | (with_reducible refine LeO.ite ?_ ?_)
   | (with_reducible refine LeO.bind ?_ (fun _ => ?_))
   | exact ih0 _ _ _ _
   | exact ih1 _ _ _ _ _
   | exact ih2 _ _ _ _ _ _ _ _
   | exact ih3 _ _ _ _ _ _ _ _
   | exact ih4 _ _ _ _ _ _ _ _
   | exact LeO.none _
   | refine LeO.ite ?_ ?_
   | refine LeO.bind ?_ (fun _ => ?_)
  ·
   intro y0 y1 y2 y3 y4 y5 y6 y7
   unfold surmiseref03_Check.j4
   repeat' first
   | (with_reducible exact ih0 _ _ _ _)
   | (with_reducible exact ih1 _ _ _ _ _)
   | (with_reducible exact ih2 _ _ _ _ _ _ _ _)
   | (with_reducible exact ih3 _ _ _ _ _ _ _ _)
   | (with_reducible exact ih4 _ _ _ _ _ _ _ _)
   | (with_reducible exact LeO.refl _)
   | (with_reducible exact LeO.none _)
   | (with_reducible refine LeO.ite ?_ ?_)
   | (with_reducible refine LeO.bind ?_ (fun _ => ?_))
   | exact ih0 _ _ _ _
   | exact ih1 _ _ _ _ _
   | exact ih2 _ _ _ _ _ _ _ _
   | exact ih3 _ _ _ _ _ _ _ _
   | exact ih4 _ _ _ _ _ _ _ _
   | exact LeO.none _
   | refine LeO.ite ?_ ?_
   | refine LeO.bind ?_ (fun _ => ?_)
theorem surmiseref03_Check.mono : ∀ a0 a1 a2 k, LeO (surmiseref03_Check.f k a0 a1 a2) (surmiseref03_Check.f (k + 1) a0 a1 a2) := by
 intro a0 a1 a2 k
 obtain ⟨ih0, ih1, ih2, ih3, ih4⟩ := surmiseref03_Check.mono_l k
 unfold surmiseref03_Check.f
 repeat' first
   | (with_reducible exact ih0 _ _ _ _)
   | (with_reducible exact ih1 _ _ _ _ _)
   | (with_reducible exact ih2 _ _ _ _ _ _ _ _)
   | (with_reducible exact ih3 _ _ _ _ _ _ _ _)
   | (with_reducible exact ih4 _ _ _ _ _ _ _ _)
   | (with_reducible exact LeO.refl _)
   | (with_reducible exact LeO.none _)
   | (with_reducible refine LeO.ite ?_ ?_)
   | (with_reducible refine LeO.bind ?_ (fun _ => ?_))
   | exact ih0 _ _ _ _
   | exact ih1 _ _ _ _ _
   | exact ih2 _ _ _ _ _ _ _ _
   | exact ih3 _ _ _ _ _ _ _ _
   | exact ih4 _ _ _ _ _ _ _ _
   | exact LeO.none _
   | refine LeO.ite ?_ ?_
   | refine LeO.bind ?_ (fun _ => ?_)
set_option maxHeartbeats 8000000 in
set_option maxRecDepth 100000 in
theorem surmiseref03_Check.calls (k : Nat) (A0 : Option Addr) (c0 : Nat) (l0 : List (S45)) (a1 : Int) (a2 : Int) (r1 : Int) (r2 : Int) (w : World) (hr0 : Kd.C k45 w A0 l0.length l0) (hc0 : l0.length ≤ c0) (h : surmiseref03_Check.f k l0 a1 a2 = some (r1, r2)) :
  Calls Try.prog 9 #[.slice A0 l0.length c0, .int .i64 a1, .int .i64 a2] w fun e w' => e = .returned (.tuple #[.int .i64 r1, .int .i64 r2]) ∧ Below w.heap.size w w' := by
 have hu45 := Try.underlying45
 have HR0 := Am hr0
 have HC0 := Am hc0
 clear hr0 hc0
 have HB := Am (Below.refl w.heap.size w)
 have H : (if a1 < 0 then (surmiseref03_Check.j0 k l0 a1 a2 true) else (surmiseref03_Check.j0 k l0 a1 a2 (decide (a2 < 0)))) = some (r1, r2) := h
 clear h
 have HC4 := Am H
 clear H
 go_enter Try.func9, Try.ntmps9
 go_upto_region 1 with (fail)
 go_cut [17] (fun v17 wc => ∃ (kq : Nat) (x17_3 : Bool), v17 = .bool x17_3 ∧ Aside0 (surmiseref03_Check.j0 kq l0 a1 a2 x17_3 = some (r1, r2)) ∧ Aside0 (kq ≤ k) ∧ Aside0 (Below w.heap.size w wc))
 case first =>
  have H := HC4.out
  clear HC4
  by_cases c5 : a1 < 0
  ·
   rw [if_pos c5] at H
   have c5b0 : decide (a1 < 0) = true := decide_eq_true c5
   clear c5
   (first | rw [c5b0] | (simp only [i64_w, i32_w]; rw [c5b0]) | skip)
   have H' := Am H
   clear H
   go_wp2
   go_meet
   case rel => exact ⟨_, (true), rq, H', ⟨by first | omega | exact Nat.le_refl _⟩, ⟨bl⟩⟩
  ·
   rw [if_neg c5] at H
   have c5b0 : decide (a1 < 0) = false := decide_eq_false c5
   clear c5
   (first | rw [c5b0] | (simp only [i64_w, i32_w]; rw [c5b0]) | skip)
   have H' := Am H
   clear H
   go_wp2
   go_meet
   case rel => exact ⟨_, (decide (a2 < 0)), rq, H', ⟨by first | omega | exact Nat.le_refl _⟩, ⟨bl⟩⟩
 case rest =>
  clear HC4
  try clear p2
  try clear c5
  try clear c5b0
  obtain ⟨kq, x17_3, rfl, HA, HJ3, HB⟩ := hcut
  cases kq with
  | zero => exact absurd HA.out (by simp [surmiseref03_Check.j0])
  | succ kj3 =>
   have H := HA.out
   clear HA
   simp only [surmiseref03_Check.j0] at H
   by_cases c6 : x17_3 = true
   ·
    subst c6
    have H1 : (some (0, 2)) = some (r1, r2) := by rw [if_pos rfl] at H; exact H
    clear H
    have H := H1
    clear H1
    simp only [Option.some.injEq, Prod.mk.injEq] at H
    obtain ⟨rfl, rfl⟩ := H
    go_wp2
    go_ret2
    exact ⟨xq, bl⟩
   ·
    replace c6 := Bool.eq_false_iff.mpr c6
    subst c6
    have H1 : (if (l0.length : Int) > 31 then (some (0, 4)) else (surmiseref03_Check.l0 kj3 l0 a1 a2 0 0)) = some (r1, r2) := by rw [if_neg (show ¬ (false = true) by decide)] at H; exact H
    clear H
    have H := H1
    clear H1
    by_cases c7 : (l0.length : Int) > 31
    ·
     rw [if_pos c7] at H
     have c7b0 : decide (31 < (l0.length : Int)) = true := decide_eq_true c7
     have c7b1 : decide (31 < l0.length) = true := decide_eq_true (by omega)
     clear c7
     simp only [Option.some.injEq, Prod.mk.injEq] at H
     obtain ⟨rfl, rfl⟩ := H
     go_wp2
     go_ret2
     exact ⟨xq, bl⟩
    ·
     rw [if_neg c7] at H
     have c7b0 : decide (31 < (l0.length : Int)) = false := decide_eq_false c7
     have c7b1 : decide (31 < l0.length) = false := decide_eq_false (by omega)
     clear c7
     have H' := Am H
     clear H
     go_wp2
     go_loopg [8, 9] kj3 (fun kq v8 v9 w' => ∃ (x8_2 : Int) (x9_2 : Int), v8 = .int .i64 x8_2 ∧ v9 = .int .i64 x9_2 ∧ Aside0 (surmiseref03_Check.l0 kq l0 a1 a2 x8_2 x9_2 = some (r1, r2)) ∧ Aside0 (kq ≤ kj3) ∧ Aside0 (Below w.heap.size w w'))
     case atStart => exact ⟨(0), (0), rq, rq, H', ⟨Nat.le_refl _⟩, ⟨bl⟩⟩
     case round =>
      clear H'
      try clear p2
      try clear c5
      try clear c5b0
      try clear c6
      try clear c7
      try clear c7b0
      try clear c7b1
      try clear p2
      obtain ⟨x8_2, x9_2, rfl, rfl, HA, HK2, HB⟩ := hrel
      cases gk with
      | zero => exact absurd HA.out (by simp [surmiseref03_Check.l0])
      | succ k2 =>
       have H := HA.out
       clear HA
       simp only [surmiseref03_Check.l0] at H
       by_cases c8 : x9_2 < (l0.length : Int)
       ·
        rw [if_pos c8] at H
        have c8b0 : decide (x9_2 < (l0.length : Int)) = true := decide_eq_true c8
        clear c8
        by_cases c9 : 0 ≤ x9_2
        ·
         rw [if_pos c9] at H
         have c9b0 : decide (0 ≤ x9_2) = true := decide_eq_true c9
         clear c9
         replace H := Option.bind_eq_some_iff.mp H
         obtain ⟨t113, A100, H⟩ := H
         replace H : (if t113 < 0 then (some (x9_2, 2)) else (if ((rd_T45 l0 x9_2).f0) = 1 then ((surmiseref03_Value.f ((rd_T45 l0 x9_2).f1)).bind fun t114 => (surmiseref03_Check.j2 k2 l0 a1 a2 x8_2 x9_2 t114 ((rd_T45 l0 x9_2).f0) ((rd_T45 l0 x9_2).f1))) else (surmiseref03_Check.j2 k2 l0 a1 a2 x8_2 x9_2 (((rd_T45 l0 x9_2).f1) == 0) ((rd_T45 l0 x9_2).f0) ((rd_T45 l0 x9_2).f1)))) = some (r1, r2) := H
         have A10 := Am A100
         clear A100
         by_cases c11 : t113 < 0
         ·
          rw [if_pos c11] at H
          have c11b0 : decide (t113 < 0) = true := decide_eq_true c11
          clear c11
          simp only [Option.some.injEq, Prod.mk.injEq] at H
          obtain ⟨rfl, rfl⟩ := H
          have p111 : 0 ≤ (x9_2 : Int) := of_decide_eq_true az
          have q111 : x9_2 < (l0.length : Int) := of_decide_eq_true az
          obtain ⟨ad111, e111, hx111_0, hx111_1⟩ := at_T45 HR0.out x9_2 p111 q111
          cases e111
          replace hx111_0 := (HB.out.cell (World.block_lt_of_cell? w _ hx111_0)).trans hx111_0
          replace hx111_1 := (HB.out.cell (World.block_lt_of_cell? w _ hx111_1)).trans hx111_1
          replace p111 := eq_true p111
          replace q111 := eq_true q111
          go_wp2_with (first | ((with_reducible refine gate_dst (N := 10) rfl ?_); refine box_event ?hg (N := 10) ?hd (cs := #[.int .i64 0, .int .i64 0]) (t := 45) ?hr ?_; (case hd => rfl); (case hg => rfl); (case hr => first | (go_simp; done) | (go_simp; rfl)); intro gb112 hg w12 hbox hb; have n0_ := Am (below_step (bl) hb); have n1_ := Am (hbox); have n2_ := Am ((by rw [hg]; exact (below_size (bl)) : w.heap.size ≤ gb112)); have n3_ := Am ((by rw [hg]; exact (below_size (bl)) : w.heap.size ≤ gb112)); clear HB; have HB := n0_; have BK112 := n1_; have GW112 := n2_; have GE112 := n3_; clear n0_ n1_ n2_ n3_; clear hb hbox hg; have hcz13_0 : w12.cell? ⟨gb112, 0, none⟩ = some (.int .i64 0) := (blk_cell BK112.out 0).trans rfl; have hcz13_1 : w12.cell? ⟨gb112, 1, none⟩ = some (.int .i64 0) := (blk_cell BK112.out 1).trans rfl; have hfz13_0 := blk_frozen BK112.out 0; have hfz13_1 := blk_frozen BK112.out 1) | ((with_reducible refine gate_callee (f := 23) rfl ?_); refine goesL_ (some 33) rfl rfl Try.func23 (by kernel_rfl) rfl #[.int .i64 ((rd_T45 l0 x9_2).f0)] rfl aq ?_; (with_reducible refine (surmiseref03_Takes.calls ((rd_T45 l0 x9_2).f0) t113 _ A10.out).mono ?_); rintro e w14 ⟨rfl, hb⟩; refine ⟨_, rfl, ?_⟩; have n0_ := Am (blk_below (g := gb112) (o := .cells #[.int .i64 ((rd_T45 l0 x9_2).f0), .int .i64 ((rd_T45 l0 x9_2).f1)] 45 (0, 0)) (by (with_reducible repeat (first | refine blk_drewN ?_ _ | refine blk_drew ?_ | refine blk_alloc ?_ _)); refine blk_put (cs := #[.int .i64 ((rd_T45 l0 x9_2).f0), .int .i64 0]) ?_ 1 _ rfl; (with_reducible repeat (first | refine blk_drewN ?_ _ | refine blk_drew ?_ | refine blk_alloc ?_ _)); refine blk_put (cs := #[.int .i64 0, .int .i64 0]) ?_ 0 _ rfl; (with_reducible repeat (first | refine blk_drewN ?_ _ | refine blk_drew ?_ | refine blk_alloc ?_ _)); exact BK112.out) hb); have n1_ := Am (below_step (by repeat (first | (with_reducible first | exact HB.out | apply below_alloc | apply pw_below_drewN | apply below_drew1 | refine below_set ?_ GE112.out) | exact HB.out)) hb); clear BK112; clear HB; have BK112 := n0_; have HB := n1_; clear n0_ n1_; (try clear hb); (try clear hb2); (try clear hk); (try clear hi)))
          go_ret2
          exact ⟨xq, by repeat (first | (with_reducible first | exact HB.out | apply below_alloc | apply pw_below_drewN | apply below_drew1 | refine below_set ?_ GE112.out) | exact HB.out)⟩
         ·
          rw [if_neg c11] at H
          have c11b0 : decide (t113 < 0) = false := decide_eq_false c11
          clear c11
          have HC15 := Am H
          clear H
          have p111 : 0 ≤ (x9_2 : Int) := of_decide_eq_true az
          have q111 : x9_2 < (l0.length : Int) := of_decide_eq_true az
          obtain ⟨ad111, e111, hx111_0, hx111_1⟩ := at_T45 HR0.out x9_2 p111 q111
          cases e111
          replace hx111_0 := (HB.out.cell (World.block_lt_of_cell? w _ hx111_0)).trans hx111_0
          replace hx111_1 := (HB.out.cell (World.block_lt_of_cell? w _ hx111_1)).trans hx111_1
          replace p111 := eq_true p111
          replace q111 := eq_true q111
          go_upto_if 41 with (first | ((with_reducible refine gate_dst (N := 10) rfl ?_); refine box_event ?hg (N := 10) ?hd (cs := #[.int .i64 0, .int .i64 0]) (t := 45) ?hr ?_; (case hd => rfl); (case hg => rfl); (case hr => first | (go_simp; done) | (go_simp; rfl)); intro gb112 hg w16 hbox hb; have n0_ := Am (below_step (bl) hb); have n1_ := Am (hbox); have n2_ := Am ((by rw [hg]; exact (below_size (bl)) : w.heap.size ≤ gb112)); have n3_ := Am ((by rw [hg]; exact (below_size (bl)) : w.heap.size ≤ gb112)); clear HB; have HB := n0_; have BK112 := n1_; have GW112 := n2_; have GE112 := n3_; clear n0_ n1_ n2_ n3_; clear hb hbox hg; have hcz17_0 : w16.cell? ⟨gb112, 0, none⟩ = some (.int .i64 0) := (blk_cell BK112.out 0).trans rfl; have hcz17_1 : w16.cell? ⟨gb112, 1, none⟩ = some (.int .i64 0) := (blk_cell BK112.out 1).trans rfl; have hfz17_0 := blk_frozen BK112.out 0; have hfz17_1 := blk_frozen BK112.out 1) | ((with_reducible refine gate_callee (f := 23) rfl ?_); refine goesL_ (some 33) rfl rfl Try.func23 (by kernel_rfl) rfl #[.int .i64 ((rd_T45 l0 x9_2).f0)] rfl aq ?_; (with_reducible refine (surmiseref03_Takes.calls ((rd_T45 l0 x9_2).f0) t113 _ A10.out).mono ?_); rintro e w18 ⟨rfl, hb⟩; refine ⟨_, rfl, ?_⟩; have n0_ := Am (blk_below (g := gb112) (o := .cells #[.int .i64 ((rd_T45 l0 x9_2).f0), .int .i64 ((rd_T45 l0 x9_2).f1)] 45 (0, 0)) (by (with_reducible repeat (first | refine blk_drewN ?_ _ | refine blk_drew ?_ | refine blk_alloc ?_ _)); refine blk_put (cs := #[.int .i64 ((rd_T45 l0 x9_2).f0), .int .i64 0]) ?_ 1 _ rfl; (with_reducible repeat (first | refine blk_drewN ?_ _ | refine blk_drew ?_ | refine blk_alloc ?_ _)); refine blk_put (cs := #[.int .i64 0, .int .i64 0]) ?_ 0 _ rfl; (with_reducible repeat (first | refine blk_drewN ?_ _ | refine blk_drew ?_ | refine blk_alloc ?_ _)); exact BK112.out) hb); have n1_ := Am (below_step (by repeat (first | (with_reducible first | exact HB.out | apply below_alloc | apply pw_below_drewN | apply below_drew1 | refine below_set ?_ GE112.out) | exact HB.out)) hb); clear BK112; clear HB; have BK112 := n0_; have HB := n1_; clear n0_ n1_; (try clear hb); (try clear hb2); (try clear hk); (try clear hi); have hcz19_0 : w18.cell? ⟨gb112, 0, none⟩ = some (.int .i64 ((rd_T45 l0 x9_2).f0)) := (blk_cell BK112.out 0).trans rfl; have hcz19_1 : w18.cell? ⟨gb112, 1, none⟩ = some (.int .i64 ((rd_T45 l0 x9_2).f1)) := (blk_cell BK112.out 1).trans rfl; have hfz19_0 := blk_frozen BK112.out 0; have hfz19_1 := blk_frozen BK112.out 1))
          (try simp only [Act.put, List.setIfInBounds_toArray, List.set_cons_zero, List.set_cons_succ])
          go_cut [11] (fun v11 wc => ∃ (kq : Nat) (x11_14 : Bool), v11 = .bool x11_14 ∧ Aside0 (surmiseref03_Check.j2 kq l0 a1 a2 x8_2 x9_2 x11_14 ((rd_T45 l0 x9_2).f0) ((rd_T45 l0 x9_2).f1) = some (r1, r2)) ∧ Aside0 (kq ≤ k2) ∧ Aside0 (wc.heap[gb112]? = some (.cells #[.int .i64 ((rd_T45 l0 x9_2).f0), .int .i64 ((rd_T45 l0 x9_2).f1)] 45 (0, 0))) ∧ Aside0 (Below w.heap.size w wc))
          case first =>
           have H := HC15.out
           clear HC15
           by_cases c20 : ((rd_T45 l0 x9_2).f0) = 1
           ·
            rw [if_pos c20] at H
            have c20b0 : (((rd_T45 l0 x9_2).f0) == 1) = true := beq_iff_eq.mpr c20
            have c20b1 : (((rd_T45 l0 x9_2).f0) != 1) = false := bne_eq_false_iff_eq.mpr c20
            clear c20
            (first | rw [c20b0] | (simp only [i64_w, i32_w]; rw [c20b0]) | skip)
            replace H := Option.bind_eq_some_iff.mp H
            obtain ⟨t114, A210, H⟩ := H
            replace H : (surmiseref03_Check.j2 k2 l0 a1 a2 x8_2 x9_2 t114 ((rd_T45 l0 x9_2).f0) ((rd_T45 l0 x9_2).f1)) = some (r1, r2) := H
            have A21 := Am A210
            clear A210
            have H' := Am H
            clear H
            have hcz22_0 : w18.cell? ⟨gb112, 0, none⟩ = some (.int .i64 ((rd_T45 l0 x9_2).f0)) := (blk_cell BK112.out 0).trans rfl
            have hcz22_1 : w18.cell? ⟨gb112, 1, none⟩ = some (.int .i64 ((rd_T45 l0 x9_2).f1)) := (blk_cell BK112.out 1).trans rfl
            have hfz22_0 := blk_frozen BK112.out 0
            have hfz22_1 := blk_frozen BK112.out 1
            go_wp2_with (first | ((with_reducible refine gate_callee (f := 20) rfl ?_); refine goesL_ (some 44) rfl rfl Try.func20 (by kernel_rfl) rfl #[.int .i64 ((rd_T45 l0 x9_2).f1)] rfl aq ?_; (with_reducible refine (surmiseref03_Value.calls ((rd_T45 l0 x9_2).f1) t114 _ A21.out).mono ?_); rintro e w' ⟨rfl, ⟨nd, rfl⟩⟩; refine ⟨_, rfl, ?_⟩))
            go_meet
            case rel => exact ⟨_, (t114), rq, H', ⟨by have := HJ3.out; have := HK2.out; first | omega | exact Nat.le_refl _⟩, ⟨kB BK112⟩, ⟨by repeat (first | (with_reducible first | exact HB.out | apply below_alloc | apply pw_below_drewN | apply below_drew1 | refine below_set ?_ GE112.out) | exact HB.out)⟩⟩
           ·
            rw [if_neg c20] at H
            have c20b0 : (((rd_T45 l0 x9_2).f0) == 1) = false := beq_eq_false_iff_ne.mpr c20
            have c20b1 : (((rd_T45 l0 x9_2).f0) != 1) = true := bne_iff_ne.mpr c20
            (first | rw [c20b0] | (simp only [i64_w, i32_w]; rw [c20b0]) | skip)
            have H' := Am H
            clear H
            go_wp2
            go_meet
            case rel => exact ⟨_, ((((rd_T45 l0 x9_2).f1) == 0)), rq, H', ⟨by have := HJ3.out; have := HK2.out; first | omega | exact Nat.le_refl _⟩, ⟨kB BK112⟩, ⟨by repeat (first | (with_reducible first | exact HB.out | apply below_alloc | apply pw_below_drewN | apply below_drew1 | refine below_set ?_ GE112.out) | exact HB.out)⟩⟩
          case rest =>
           clear HC15
           try clear c1
           try clear p1
           try clear q1
           try clear hx1
           try clear c2
           try clear p2
           try clear c5
           try clear c5b0
           try clear c6
           try clear c7
           try clear c7b0
           try clear c7b1
           try clear c8
           try clear c8b0
           try clear c9
           try clear c9b0
           try clear c11
           try clear c11b0
           try clear p11
           try clear q11
           try clear hx11
           try clear c20
           try clear c20b0
           try clear c20b1
           try clear hcz13_0
           try clear hcz13_1
           try clear hcz17_0
           try clear hcz17_1
           try clear hcz19_0
           try clear hcz19_1
           try clear hcz22_0
           try clear hcz22_1
           try clear hfz13_0
           try clear hfz13_1
           try clear hfz17_0
           try clear hfz17_1
           try clear hfz19_0
           try clear hfz19_1
           try clear hfz22_0
           try clear hfz22_1
           try clear hx111_0
           try clear hx111_1
           try clear p111
           try clear p2
           try clear q111
           obtain ⟨kq, x11_14, rfl, HA, HJ14, BK112, HB⟩ := hcut
           cases kq with
           | zero => exact absurd HA.out (by simp [surmiseref03_Check.j2])
           | succ kj14 =>
            have H := HA.out
            clear HA
            simp only [surmiseref03_Check.j2] at H
            have HC23 := Am H
            clear H
            have hcz24_0 : wc.cell? ⟨gb112, 0, none⟩ = some (.int .i64 ((rd_T45 l0 x9_2).f0)) := (blk_cell BK112.out 0).trans rfl
            have hcz24_1 : wc.cell? ⟨gb112, 1, none⟩ = some (.int .i64 ((rd_T45 l0 x9_2).f1)) := (blk_cell BK112.out 1).trans rfl
            have hfz24_0 := blk_frozen BK112.out 0
            have hfz24_1 := blk_frozen BK112.out 1
            go_upto_if 47 with (fail)
            go_cut [11] (fun v11 wc => ∃ (kq : Nat) (x11_22 : Bool), v11 = .bool x11_22 ∧ Aside0 (surmiseref03_Check.j3 kq l0 a1 a2 x8_2 x9_2 x11_22 ((rd_T45 l0 x9_2).f0) ((rd_T45 l0 x9_2).f1) = some (r1, r2)) ∧ Aside0 (kq ≤ kj14) ∧ Aside0 (wc.heap[gb112]? = some (.cells #[.int .i64 ((rd_T45 l0 x9_2).f0), .int .i64 ((rd_T45 l0 x9_2).f1)] 45 (0, 0))) ∧ Aside0 (Below w.heap.size w wc))
            case first =>
             have H := HC23.out
             clear HC23
             by_cases c25 : ((rd_T45 l0 x9_2).f0) = 2
             ·
              rw [if_pos c25] at H
              have c25b0 : (((rd_T45 l0 x9_2).f0) == 2) = true := beq_iff_eq.mpr c25
              have c25b1 : (((rd_T45 l0 x9_2).f0) != 2) = false := bne_eq_false_iff_eq.mpr c25
              clear c25
              (first | rw [c25b0] | (simp only [i64_w, i32_w]; rw [c25b0]) | skip)
              by_cases c26 : ((rd_T45 l0 x9_2).f1) ≥ 0
              ·
               rw [if_pos c26] at H
               have c26b0 : decide (0 ≤ ((rd_T45 l0 x9_2).f1)) = true := decide_eq_true c26
               clear c26
               have H' := Am H
               clear H
               have hcz27_0 : wc.cell? ⟨gb112, 0, none⟩ = some (.int .i64 ((rd_T45 l0 x9_2).f0)) := (blk_cell BK112.out 0).trans rfl
               have hcz27_1 : wc.cell? ⟨gb112, 1, none⟩ = some (.int .i64 ((rd_T45 l0 x9_2).f1)) := (blk_cell BK112.out 1).trans rfl
               have hfz27_0 := blk_frozen BK112.out 0
               have hfz27_1 := blk_frozen BK112.out 1
               go_wp2
               go_meet
               case rel => exact ⟨_, (decide (((rd_T45 l0 x9_2).f1) < a1)), rq, H', ⟨by have := HJ3.out; have := HK2.out; have := HJ14.out; first | omega | exact Nat.le_refl _⟩, ⟨kB BK112⟩, ⟨by repeat (first | (with_reducible first | exact HB.out | apply below_alloc | apply pw_below_drewN | apply below_drew1 | refine below_set ?_ GE112.out) | exact HB.out)⟩⟩
              ·
               rw [if_neg c26] at H
               have c26b0 : decide (0 ≤ ((rd_T45 l0 x9_2).f1)) = false := decide_eq_false c26
               clear c26
               have H' := Am H
               clear H
               have hcz28_0 : wc.cell? ⟨gb112, 0, none⟩ = some (.int .i64 ((rd_T45 l0 x9_2).f0)) := (blk_cell BK112.out 0).trans rfl
               have hcz28_1 : wc.cell? ⟨gb112, 1, none⟩ = some (.int .i64 ((rd_T45 l0 x9_2).f1)) := (blk_cell BK112.out 1).trans rfl
               have hfz28_0 := blk_frozen BK112.out 0
               have hfz28_1 := blk_frozen BK112.out 1
               go_wp2
               go_meet
               case rel => exact ⟨_, (false), rq, H', ⟨by have := HJ3.out; have := HK2.out; have := HJ14.out; first | omega | exact Nat.le_refl _⟩, ⟨kB BK112⟩, ⟨by repeat (first | (with_reducible first | exact HB.out | apply below_alloc | apply pw_below_drewN | apply below_drew1 | refine below_set ?_ GE112.out) | exact HB.out)⟩⟩
             ·
              rw [if_neg c25] at H
              have c25b0 : (((rd_T45 l0 x9_2).f0) == 2) = false := beq_eq_false_iff_ne.mpr c25
              have c25b1 : (((rd_T45 l0 x9_2).f0) != 2) = true := bne_iff_ne.mpr c25
              (first | rw [c25b0] | (simp only [i64_w, i32_w]; rw [c25b0]) | skip)
              have H' := Am H
              clear H
              go_wp2
              go_meet
              case rel => exact ⟨_, (x11_14), rq, H', ⟨by have := HJ3.out; have := HK2.out; have := HJ14.out; first | omega | exact Nat.le_refl _⟩, ⟨kB BK112⟩, ⟨by repeat (first | (with_reducible first | exact HB.out | apply below_alloc | apply pw_below_drewN | apply below_drew1 | refine below_set ?_ GE112.out) | exact HB.out)⟩⟩
            case rest =>
             clear HC23
             try clear c1
             try clear p1
             try clear q1
             try clear hx1
             try clear c2
             try clear p2
             try clear c5
             try clear c5b0
             try clear c6
             try clear c7
             try clear c7b0
             try clear c7b1
             try clear c8
             try clear c8b0
             try clear c9
             try clear c9b0
             try clear c11
             try clear c11b0
             try clear p11
             try clear q11
             try clear hx11
             try clear c20
             try clear c20b0
             try clear c20b1
             try clear c23
             try clear c25
             try clear c25b0
             try clear c25b1
             try clear c26
             try clear c26b0
             try clear hcz13_0
             try clear hcz13_1
             try clear hcz17_0
             try clear hcz17_1
             try clear hcz19_0
             try clear hcz19_1
             try clear hcz22_0
             try clear hcz22_1
             try clear hcz24_0
             try clear hcz24_1
             try clear hcz27_0
             try clear hcz27_1
             try clear hcz28_0
             try clear hcz28_1
             try clear hfz13_0
             try clear hfz13_1
             try clear hfz17_0
             try clear hfz17_1
             try clear hfz19_0
             try clear hfz19_1
             try clear hfz22_0
             try clear hfz22_1
             try clear hfz24_0
             try clear hfz24_1
             try clear hfz27_0
             try clear hfz27_1
             try clear hfz28_0
             try clear hfz28_1
             try clear hx111_0
             try clear hx111_1
             try clear p1
             try clear p11
             try clear p111
             try clear p2
             try clear q1
             try clear q11
             try clear q111
             obtain ⟨kq, x11_22, rfl, HA, HJ22, BK112, HB⟩ := hcut
             cases kq with
             | zero => exact absurd HA.out (by simp [surmiseref03_Check.j3])
             | succ kj22 =>
              have H := HA.out
              clear HA
              simp only [surmiseref03_Check.j3] at H
              have HC29 := Am H
              clear H
              have hcz30_0 : wc.cell? ⟨gb112, 0, none⟩ = some (.int .i64 ((rd_T45 l0 x9_2).f0)) := (blk_cell BK112.out 0).trans rfl
              have hcz30_1 : wc.cell? ⟨gb112, 1, none⟩ = some (.int .i64 ((rd_T45 l0 x9_2).f1)) := (blk_cell BK112.out 1).trans rfl
              have hfz30_0 := blk_frozen BK112.out 0
              have hfz30_1 := blk_frozen BK112.out 1
              go_upto_if 59 with (fail)
              go_cut [11] (fun v11 wc => ∃ (kq : Nat) (x11_28 : Bool), v11 = .bool x11_28 ∧ Aside0 (surmiseref03_Check.j4 kq l0 a1 a2 x8_2 x9_2 x11_28 ((rd_T45 l0 x9_2).f0) ((rd_T45 l0 x9_2).f1) = some (r1, r2)) ∧ Aside0 (kq ≤ kj22) ∧ Aside0 (wc.heap[gb112]? = some (.cells #[.int .i64 ((rd_T45 l0 x9_2).f0), .int .i64 ((rd_T45 l0 x9_2).f1)] 45 (0, 0))) ∧ Aside0 (Below w.heap.size w wc))
              case first =>
               have H := HC29.out
               clear HC29
               by_cases c31 : ((rd_T45 l0 x9_2).f0) = 3
               ·
                rw [if_pos c31] at H
                have c31b0 : (((rd_T45 l0 x9_2).f0) == 3) = true := beq_iff_eq.mpr c31
                have c31b1 : (((rd_T45 l0 x9_2).f0) != 3) = false := bne_eq_false_iff_eq.mpr c31
                clear c31
                (first | rw [c31b0] | (simp only [i64_w, i32_w]; rw [c31b0]) | skip)
                by_cases c32 : ((rd_T45 l0 x9_2).f1) ≥ 0
                ·
                 rw [if_pos c32] at H
                 have c32b0 : decide (0 ≤ ((rd_T45 l0 x9_2).f1)) = true := decide_eq_true c32
                 clear c32
                 have H' := Am H
                 clear H
                 have hcz33_0 : wc.cell? ⟨gb112, 0, none⟩ = some (.int .i64 ((rd_T45 l0 x9_2).f0)) := (blk_cell BK112.out 0).trans rfl
                 have hcz33_1 : wc.cell? ⟨gb112, 1, none⟩ = some (.int .i64 ((rd_T45 l0 x9_2).f1)) := (blk_cell BK112.out 1).trans rfl
                 have hfz33_0 := blk_frozen BK112.out 0
                 have hfz33_1 := blk_frozen BK112.out 1
                 go_wp2
                 go_meet
                 case rel => exact ⟨_, (decide (((rd_T45 l0 x9_2).f1) < a2)), rq, H', ⟨by have := HJ3.out; have := HK2.out; have := HJ14.out; have := HJ22.out; first | omega | exact Nat.le_refl _⟩, ⟨kB BK112⟩, ⟨by repeat (first | (with_reducible first | exact HB.out | apply below_alloc | apply pw_below_drewN | apply below_drew1 | refine below_set ?_ GE112.out) | exact HB.out)⟩⟩
                ·
                 rw [if_neg c32] at H
                 have c32b0 : decide (0 ≤ ((rd_T45 l0 x9_2).f1)) = false := decide_eq_false c32
                 clear c32
                 have H' := Am H
                 clear H
                 have hcz34_0 : wc.cell? ⟨gb112, 0, none⟩ = some (.int .i64 ((rd_T45 l0 x9_2).f0)) := (blk_cell BK112.out 0).trans rfl
                 have hcz34_1 : wc.cell? ⟨gb112, 1, none⟩ = some (.int .i64 ((rd_T45 l0 x9_2).f1)) := (blk_cell BK112.out 1).trans rfl
                 have hfz34_0 := blk_frozen BK112.out 0
                 have hfz34_1 := blk_frozen BK112.out 1
                 go_wp2
                 go_meet
                 case rel => exact ⟨_, (false), rq, H', ⟨by have := HJ3.out; have := HK2.out; have := HJ14.out; have := HJ22.out; first | omega | exact Nat.le_refl _⟩, ⟨kB BK112⟩, ⟨by repeat (first | (with_reducible first | exact HB.out | apply below_alloc | apply pw_below_drewN | apply below_drew1 | refine below_set ?_ GE112.out) | exact HB.out)⟩⟩
               ·
                rw [if_neg c31] at H
                have c31b0 : (((rd_T45 l0 x9_2).f0) == 3) = false := beq_eq_false_iff_ne.mpr c31
                have c31b1 : (((rd_T45 l0 x9_2).f0) != 3) = true := bne_iff_ne.mpr c31
                (first | rw [c31b0] | (simp only [i64_w, i32_w]; rw [c31b0]) | skip)
                have H' := Am H
                clear H
                go_wp2
                go_meet
                case rel => exact ⟨_, (x11_22), rq, H', ⟨by have := HJ3.out; have := HK2.out; have := HJ14.out; have := HJ22.out; first | omega | exact Nat.le_refl _⟩, ⟨kB BK112⟩, ⟨by repeat (first | (with_reducible first | exact HB.out | apply below_alloc | apply pw_below_drewN | apply below_drew1 | refine below_set ?_ GE112.out) | exact HB.out)⟩⟩
              case rest =>
               clear HC29
               try clear c1
               try clear p1
               try clear q1
               try clear hx1
               try clear c2
               try clear p2
               try clear c3
               try clear c5
               try clear c5b0
               try clear c6
               try clear c7
               try clear c7b0
               try clear c7b1
               try clear c8
               try clear c8b0
               try clear c9
               try clear c9b0
               try clear c11
               try clear c11b0
               try clear p11
               try clear q11
               try clear hx11
               try clear c20
               try clear c20b0
               try clear c20b1
               try clear c23
               try clear c25
               try clear c25b0
               try clear c25b1
               try clear c26
               try clear c26b0
               try clear c31
               try clear c31b0
               try clear c31b1
               try clear c32
               try clear c32b0
               try clear hcz13_0
               try clear hcz13_1
               try clear hcz17_0
               try clear hcz17_1
               try clear hcz19_0
               try clear hcz19_1
               try clear hcz22_0
               try clear hcz22_1
               try clear hcz24_0
               try clear hcz24_1
               try clear hcz27_0
               try clear hcz27_1
               try clear hcz28_0
               try clear hcz28_1
               try clear hcz30_0
               try clear hcz30_1
               try clear hcz33_0
               try clear hcz33_1
               try clear hcz34_0
               try clear hcz34_1
               try clear hfz13_0
               try clear hfz13_1
               try clear hfz17_0
               try clear hfz17_1
               try clear hfz19_0
               try clear hfz19_1
               try clear hfz22_0
               try clear hfz22_1
               try clear hfz24_0
               try clear hfz24_1
               try clear hfz27_0
               try clear hfz27_1
               try clear hfz28_0
               try clear hfz28_1
               try clear hfz30_0
               try clear hfz30_1
               try clear hfz33_0
               try clear hfz33_1
               try clear hfz34_0
               try clear hfz34_1
               try clear hx111_0
               try clear hx111_1
               try clear p1
               try clear p11
               try clear p111
               try clear p2
               try clear q1
               try clear q11
               try clear q111
               obtain ⟨kq, x11_28, rfl, HA, HJ28, BK112, HB⟩ := hcut
               cases kq with
               | zero => exact absurd HA.out (by simp [surmiseref03_Check.j4])
               | succ kj28 =>
                have H := HA.out
                clear HA
                simp only [surmiseref03_Check.j4] at H
                by_cases c35 : x11_28 = true
                ·
                 subst c35
                 have H1 : ((surmiseref03_Takes.f ((rd_T45 l0 x9_2).f0)).bind fun t115 => (if t115 > x8_2 then (some (x9_2, 5)) else ((surmiseref03_Takes.f ((rd_T45 l0 x9_2).f0)).bind fun t116 => (surmiseref03_Check.l0 kj28 l0 a1 a2 (wrap64 ((wrap64 (x8_2 - t116)) + 1)) (wrap64 (x9_2 + 1)))))) = some (r1, r2) := by rw [if_pos rfl] at H; exact H
                 clear H
                 have H := H1
                 clear H1
                 replace H := Option.bind_eq_some_iff.mp H
                 obtain ⟨t115, A360, H⟩ := H
                 replace H : (if t115 > x8_2 then (some (x9_2, 5)) else ((surmiseref03_Takes.f ((rd_T45 l0 x9_2).f0)).bind fun t116 => (surmiseref03_Check.l0 kj28 l0 a1 a2 (wrap64 ((wrap64 (x8_2 - t116)) + 1)) (wrap64 (x9_2 + 1))))) = some (r1, r2) := H
                 have A36 := Am A360
                 clear A360
                 by_cases c37 : t115 > x8_2
                 ·
                  rw [if_pos c37] at H
                  have c37b0 : decide (x8_2 < t115) = true := decide_eq_true c37
                  clear c37
                  simp only [Option.some.injEq, Prod.mk.injEq] at H
                  obtain ⟨rfl, rfl⟩ := H
                  have hcz38_0 : wc.cell? ⟨gb112, 0, none⟩ = some (.int .i64 ((rd_T45 l0 x9_2).f0)) := (blk_cell BK112.out 0).trans rfl
                  have hcz38_1 : wc.cell? ⟨gb112, 1, none⟩ = some (.int .i64 ((rd_T45 l0 x9_2).f1)) := (blk_cell BK112.out 1).trans rfl
                  have hfz38_0 := blk_frozen BK112.out 0
                  have hfz38_1 := blk_frozen BK112.out 1
                  go_wp2_with (first | ((with_reducible refine gate_callee (f := 23) rfl ?_); refine goesL_ (some 74) rfl rfl Try.func23 (by kernel_rfl) rfl #[.int .i64 ((rd_T45 l0 x9_2).f0)] rfl aq ?_; (with_reducible refine (surmiseref03_Takes.calls ((rd_T45 l0 x9_2).f0) t115 _ A36.out).mono ?_); rintro e w39 ⟨rfl, hb⟩; refine ⟨_, rfl, ?_⟩; have n0_ := Am (blk_below (g := gb112) (o := .cells #[.int .i64 ((rd_T45 l0 x9_2).f0), .int .i64 ((rd_T45 l0 x9_2).f1)] 45 (0, 0)) (kB BK112) hb); have n1_ := Am (below_step (by repeat (first | (with_reducible first | exact HB.out | apply below_alloc | apply pw_below_drewN | apply below_drew1 | refine below_set ?_ GE112.out) | exact HB.out)) hb); clear BK112; clear HB; have BK112 := n0_; have HB := n1_; clear n0_ n1_; (try clear hb); (try clear hb2); (try clear hk); (try clear hi)))
                  go_ret2
                  exact ⟨xq, by repeat (first | (with_reducible first | exact HB.out | apply below_alloc | apply pw_below_drewN | apply below_drew1 | refine below_set ?_ GE112.out) | exact HB.out)⟩
                 ·
                  rw [if_neg c37] at H
                  have c37b0 : decide (x8_2 < t115) = false := decide_eq_false c37
                  clear c37
                  replace H := Option.bind_eq_some_iff.mp H
                  obtain ⟨t116, A400, H⟩ := H
                  replace H : (surmiseref03_Check.l0 kj28 l0 a1 a2 (wrap64 ((wrap64 (x8_2 - t116)) + 1)) (wrap64 (x9_2 + 1))) = some (r1, r2) := H
                  have A40 := Am A400
                  clear A400
                  have H' := Am H
                  clear H
                  have hcz41_0 : wc.cell? ⟨gb112, 0, none⟩ = some (.int .i64 ((rd_T45 l0 x9_2).f0)) := (blk_cell BK112.out 0).trans rfl
                  have hcz41_1 : wc.cell? ⟨gb112, 1, none⟩ = some (.int .i64 ((rd_T45 l0 x9_2).f1)) := (blk_cell BK112.out 1).trans rfl
                  have hfz41_0 := blk_frozen BK112.out 0
                  have hfz41_1 := blk_frozen BK112.out 1
                  go_wp2_with (first | ((with_reducible refine gate_callee (f := 23) rfl ?_); refine goesL_ (some 74) rfl rfl Try.func23 (by kernel_rfl) rfl #[.int .i64 ((rd_T45 l0 x9_2).f0)] rfl aq ?_; (with_reducible refine (surmiseref03_Takes.calls ((rd_T45 l0 x9_2).f0) t115 _ A36.out).mono ?_); rintro e w42 ⟨rfl, hb⟩; refine ⟨_, rfl, ?_⟩; have n0_ := Am (blk_below (g := gb112) (o := .cells #[.int .i64 ((rd_T45 l0 x9_2).f0), .int .i64 ((rd_T45 l0 x9_2).f1)] 45 (0, 0)) (kB BK112) hb); have n1_ := Am (below_step (by repeat (first | (with_reducible first | exact HB.out | apply below_alloc | apply pw_below_drewN | apply below_drew1 | refine below_set ?_ GE112.out) | exact HB.out)) hb); clear BK112; clear HB; have BK112 := n0_; have HB := n1_; clear n0_ n1_; (try clear hb); (try clear hb2); (try clear hk); (try clear hi); have hcz43_0 : w42.cell? ⟨gb112, 0, none⟩ = some (.int .i64 ((rd_T45 l0 x9_2).f0)) := (blk_cell BK112.out 0).trans rfl; have hcz43_1 : w42.cell? ⟨gb112, 1, none⟩ = some (.int .i64 ((rd_T45 l0 x9_2).f1)) := (blk_cell BK112.out 1).trans rfl; have hfz43_0 := blk_frozen BK112.out 0; have hfz43_1 := blk_frozen BK112.out 1) | ((with_reducible refine gate_callee (f := 23) rfl ?_); refine goesL_ (some 81) rfl rfl Try.func23 (by kernel_rfl) rfl #[.int .i64 ((rd_T45 l0 x9_2).f0)] rfl aq ?_; (with_reducible refine (surmiseref03_Takes.calls ((rd_T45 l0 x9_2).f0) t116 _ A40.out).mono ?_); rintro e w44 ⟨rfl, hb⟩; refine ⟨_, rfl, ?_⟩; have n0_ := Am (blk_below (g := gb112) (o := .cells #[.int .i64 ((rd_T45 l0 x9_2).f0), .int .i64 ((rd_T45 l0 x9_2).f1)] 45 (0, 0)) (kB BK112) hb); have n1_ := Am (below_step (by repeat (first | (with_reducible first | exact HB.out | apply below_alloc | apply pw_below_drewN | apply below_drew1 | refine below_set ?_ GE112.out) | exact HB.out)) hb); clear BK112; clear HB; have BK112 := n0_; have HB := n1_; clear n0_ n1_; (try clear hb); (try clear hb2); (try clear hk); (try clear hi)))
                  go_roundg kj28
                  case measure => have := HJ3.out; have := HK2.out; have := HJ14.out; have := HJ22.out; have := HJ28.out; omega
                  case rel => exact ⟨(wrap64 ((wrap64 (x8_2 - t116)) + 1)), (wrap64 (x9_2 + 1)), rq, rq, H', ⟨by have := HJ3.out; have := HK2.out; have := HJ14.out; have := HJ22.out; have := HJ28.out; omega⟩, ⟨by repeat (first | (with_reducible first | exact HB.out | apply below_alloc | apply pw_below_drewN | apply below_drew1 | refine below_set ?_ GE112.out) | exact HB.out)⟩⟩
                ·
                 replace c35 := Bool.eq_false_iff.mpr c35
                 subst c35
                 have H1 : (some (x9_2, 3)) = some (r1, r2) := by rw [if_neg (show ¬ (false = true) by decide)] at H; exact H
                 clear H
                 have H := H1
                 clear H1
                 simp only [Option.some.injEq, Prod.mk.injEq] at H
                 obtain ⟨rfl, rfl⟩ := H
                 go_wp2
                 go_ret2
                 exact ⟨xq, by repeat (first | (with_reducible first | exact HB.out | apply below_alloc | apply pw_below_drewN | apply below_drew1 | refine below_set ?_ GE112.out) | exact HB.out)⟩
        ·
         rw [if_neg c9] at H
         exact absurd H (by simp)
       ·
        rw [if_neg c8] at H
        have c8b0 : decide (x9_2 < (l0.length : Int)) = false := decide_eq_false c8
        clear c8
        by_cases c45 : x8_2 = 1
        ·
         rw [if_pos c45] at H
         have c45b0 : (x8_2 == 1) = true := beq_iff_eq.mpr c45
         have c45b1 : (x8_2 != 1) = false := bne_eq_false_iff_eq.mpr c45
         clear c45
         simp only [Option.some.injEq, Prod.mk.injEq] at H
         obtain ⟨rfl, rfl⟩ := H
         go_wp2
         go_ret2
         exact ⟨xq, bl⟩
        ·
         rw [if_neg c45] at H
         have c45b0 : (x8_2 == 1) = false := beq_eq_false_iff_ne.mpr c45
         have c45b1 : (x8_2 != 1) = true := bne_iff_ne.mpr c45
         simp only [Option.some.injEq, Prod.mk.injEq] at H
         obtain ⟨rfl, rfl⟩ := H
         go_wp2
         go_ret2
         exact ⟨xq, bl⟩

/-! ### expr_values: function 25 -/
def expr_values.l0 : Nat → List Int → Int → Int → Option (Bool)
 | 0, _, _, _ => none
 | k + 1, x5, x6, x7 => if x7 < x6 then (if 0 ≤ x7 then (if x7 < (x5.length : Int) then ((expr_value.f (rd x5 x7)).bind fun t118 => (if t118 = true then (expr_values.l0 k x5 x6 (wrap64 (x7 + 1))) else (some false))) else (none)) else (none)) else (some true)
def expr_values.f (k : Nat) (l0 : List Int) : Option (Bool) := expr_values.l0 k l0 (l0.length : Int) 0
theorem expr_values.mono_l : ∀ k, (∀ y0 y1 y2, LeO (expr_values.l0 k y0 y1 y2) (expr_values.l0 (k + 1) y0 y1 y2))
 | 0 => fun _ _ _ r h => by simp [expr_values.l0] at h
 | k + 1 => by
  have ih0 := expr_values.mono_l k
  ·
   intro y0 y1 y2
   unfold expr_values.l0
   repeat' first
   | (with_reducible exact ih0 _ _ _)
   | (with_reducible exact LeO.refl _)
   | (with_reducible exact LeO.none _)
   | (with_reducible refine LeO.ite ?_ ?_)
   | (with_reducible refine LeO.bind ?_ (fun _ => ?_))
   | exact ih0 _ _ _
   | exact LeO.none _
   | refine LeO.ite ?_ ?_
   | refine LeO.bind ?_ (fun _ => ?_)
theorem expr_values.mono : ∀ a0 k, LeO (expr_values.f k a0) (expr_values.f (k + 1) a0) := by
 intro a0 k
 have ih0 := expr_values.mono_l k
 unfold expr_values.f
 repeat' first
   | (with_reducible exact ih0 _ _ _)
   | (with_reducible exact LeO.refl _)
   | (with_reducible exact LeO.none _)
   | (with_reducible refine LeO.ite ?_ ?_)
   | (with_reducible refine LeO.bind ?_ (fun _ => ?_))
   | exact ih0 _ _ _
   | exact LeO.none _
   | refine LeO.ite ?_ ?_
   | refine LeO.bind ?_ (fun _ => ?_)
set_option maxHeartbeats 8000000 in
set_option maxRecDepth 100000 in
theorem expr_values.calls (k : Nat) (A0 : Option Addr) (c0 : Nat) (l0 : List Int) (r : Bool) (w : World) (hr0 : Kd.C (Kd.int .i64) w A0 l0.length l0) (hc0 : l0.length ≤ c0) (h : expr_values.f k l0 = some r) :
  Calls Try.prog 25 #[.slice A0 l0.length c0] w fun e w' => e = .returned (.bool r) ∧ Drawn0 w w' := by
 have HR0 := Am hr0
 have HC0 := Am hc0
 clear hr0 hc0
 have H : (expr_values.l0 k l0 (l0.length : Int) 0) = some r := h
 clear h
 have H' := Am H
 clear H
 go_enter Try.func25, Try.ntmps25
 go_wp2
 go_loopg [7] k (fun kq v7 w' => ∃ (x7_1 : Int), v7 = .int .i64 x7_1 ∧ Aside0 (expr_values.l0 kq l0 (l0.length : Int) x7_1 = some r) ∧ Aside0 (kq ≤ k) ∧ Drawn0 w w')
 case atStart => exact ⟨(0), rq, H', ⟨Nat.le_refl _⟩, by repeat (first | exact Drawn0.refl _ | apply Drawn0.step)⟩
 case round =>
  clear H'
  obtain ⟨x7_1, rfl, HA, HK1, ⟨m1, rfl⟩⟩ := hrel
  cases gk with
  | zero => exact absurd HA.out (by simp [expr_values.l0])
  | succ k1 =>
   have H := HA.out
   clear HA
   simp only [expr_values.l0] at H
   by_cases c2 : x7_1 < (l0.length : Int)
   ·
    rw [if_pos c2] at H
    have c2b0 : decide (x7_1 < (l0.length : Int)) = true := decide_eq_true c2
    clear c2
    by_cases c3 : 0 ≤ x7_1
    ·
     rw [if_pos c3] at H
     have c3b0 : decide (0 ≤ x7_1) = true := decide_eq_true c3
     clear c3
     by_cases c4 : x7_1 < (l0.length : Int)
     ·
      rw [if_pos c4] at H
      have c4b0 : decide (x7_1 < (l0.length : Int)) = true := decide_eq_true c4
      clear c4
      replace H := Option.bind_eq_some_iff.mp H
      obtain ⟨t118, A50, H⟩ := H
      replace H : (if t118 = true then (expr_values.l0 k1 l0 (l0.length : Int) (wrap64 (x7_1 + 1))) else (some false)) = some r := H
      have A5 := Am A50
      clear A50
      by_cases c6 : t118 = true
      ·
       subst c6
       have H1 : (expr_values.l0 k1 l0 (l0.length : Int) (wrap64 (x7_1 + 1))) = some r := by rw [if_pos rfl] at H; exact H
       clear H
       have H := H1
       clear H1
       have H' := Am H
       clear H
       have p117 : 0 ≤ (x7_1 : Int) := of_decide_eq_true az
       have q117 : x7_1 < (l0.length : Int) := of_decide_eq_true az
       obtain ⟨ad117, e117, hx117_0⟩ := Kd.at_int HR0.out x7_1 p117 q117
       cases e117
       replace p117 := eq_true p117
       replace q117 := eq_true q117
       go_wp2_with (first | ((with_reducible refine gate_callee (f := 30) rfl ?_); refine goesL_ (some 12) rfl rfl Try.func30 (by kernel_rfl) rfl #[.int .i64 (rd l0 x7_1)] rfl aq ?_; (with_reducible refine (expr_value.calls (rd l0 x7_1) true _ A5.out).mono ?_); rintro e w' ⟨rfl, ⟨nd, rfl⟩⟩; refine ⟨_, rfl, ?_⟩))
       go_roundg k1
       case measure => have := HK1.out; omega
       case rel => exact ⟨(wrap64 (x7_1 + 1)), rq, H', ⟨by have := HK1.out; omega⟩, by repeat (first | exact Drawn0.refl _ | apply Drawn0.step)⟩
      ·
       replace c6 := Bool.eq_false_iff.mpr c6
       subst c6
       have H1 : (some false) = some r := by rw [if_neg (show ¬ (false = true) by decide)] at H; exact H
       clear H
       have H := H1
       clear H1
       obtain rfl := Option.some.inj H
       have p117 : 0 ≤ (x7_1 : Int) := of_decide_eq_true az
       have q117 : x7_1 < (l0.length : Int) := of_decide_eq_true az
       obtain ⟨ad117, e117, hx117_0⟩ := Kd.at_int HR0.out x7_1 p117 q117
       cases e117
       replace p117 := eq_true p117
       replace q117 := eq_true q117
       go_wp2_with (first | ((with_reducible refine gate_callee (f := 30) rfl ?_); refine goesL_ (some 12) rfl rfl Try.func30 (by kernel_rfl) rfl #[.int .i64 (rd l0 x7_1)] rfl aq ?_; (with_reducible refine (expr_value.calls (rd l0 x7_1) false _ A5.out).mono ?_); rintro e w' ⟨rfl, ⟨nd, rfl⟩⟩; refine ⟨_, rfl, ?_⟩))
       go_ret
       exact ⟨by first | rfl | (simp; done) | (simp [*]; done), by repeat (first | exact Drawn0.refl _ | apply Drawn0.step)⟩
     ·
      rw [if_neg c4] at H
      exact absurd H (by simp)
    ·
     rw [if_neg c3] at H
     exact absurd H (by simp)
   ·
    rw [if_neg c2] at H
    have c2b0 : decide (x7_1 < (l0.length : Int)) = false := decide_eq_false c2
    clear c2
    obtain rfl := Option.some.inj H
    go_wp2
    go_ret
    exact ⟨by first | rfl | (simp; done) | (simp [*]; done), by repeat (first | exact Drawn0.refl _ | apply Drawn0.step)⟩

/-! ### expr_truth: function 31 -/
def expr_truth.f (a0 : Bool) : Option (Int) := if a0 = true then (some 1) else (some 0)
set_option maxHeartbeats 8000000 in
set_option maxRecDepth 100000 in
theorem expr_truth.calls (a0 : Bool) (r : Int) (w : World) (h : expr_truth.f a0 = some r) :
  Calls Try.prog 31 #[.bool a0] w fun e w' => e = .returned (.int .i64 r) ∧ Drawn0 w w' := by
 have H : (if a0 = true then (some 1) else (some 0)) = some r := h
 clear h
 by_cases c2 : a0 = true
 ·
  subst c2
  have H1 : (some 1) = some r := by rw [if_pos rfl] at H; exact H
  clear H
  have H := H1
  clear H1
  obtain rfl := Option.some.inj H
  go_enter Try.func31, Try.ntmps31
  go_wp2
  go_ret
  exact ⟨by first | rfl | (simp; done) | (simp [*]; done), by repeat (first | exact Drawn0.refl _ | apply Drawn0.step)⟩
 ·
  replace c2 := Bool.eq_false_iff.mpr c2
  subst c2
  have H1 : (some 0) = some r := by rw [if_neg (show ¬ (false = true) by decide)] at H; exact H
  clear H
  have H := H1
  clear H1
  obtain rfl := Option.some.inj H
  go_enter Try.func31, Try.ntmps31
  go_wp2
  go_ret
  exact ⟨by first | rfl | (simp; done) | (simp [*]; done), by repeat (first | exact Drawn0.refl _ | apply Drawn0.step)⟩

end Go.Proofs.Ythhnecbfcpmpbaa.PA
