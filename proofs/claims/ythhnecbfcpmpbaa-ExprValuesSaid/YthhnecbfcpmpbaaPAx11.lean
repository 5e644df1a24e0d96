-- Written by a program (wip/tools/gprint.py: a patched copy of the kit's print) and by hand, for this claim
import Derived.Test.YthhnecbfcpmpbaaPAx0
import Derived.Test.YthhnecbfcpmpbaaPAx2
import Derived.Test.YthhnecbfcpmpbaaPAx5
import Derived.Test.YthhnecbfcpmpbaaPAx6
import Derived.Test.YthhnecbfcpmpbaaPAx9
namespace Go.Proofs.Ythhnecbfcpmpbaa.PA
open Go.RowKit Go.Proofs.YthhnecbfcpmpbaaW.PrintWords Go.Proofs.YthhnecbfcpmpbaaW.PrintLast Go.Proofs.YthhnecbfcpmpbaaW.PrintMore
attribute [local go_sem] max2_int min2_int max_two min_two max_three min_three max_four min_four   -- for this text's walks alone
set_option linter.unusedVariables false
set_option linter.unusedSimpArgs false

/-! ### surmiselaw03_ExprValues: function 7 -/
mutual
def surmiselaw03_ExprValues.j0 : Nat → List (S45) → List Int → List Int → Int → Int → Bool → Option (Bool)
 | 0, _, _, _, _, _, _ => none
 | k + 1, x3, x4, x5, x6, x7, x37 => if x37 = true then ((surmiselaw03_awake.f k).bind fun t348 => (if t348 = true then (some (x7 == 0)) else (none))) else ((surmiseref03_Value.f x7).bind fun t349 => (if t349 = true then ((surmiseref03_Value.f x6).bind fun t350 => (surmiselaw03_ExprValues.j1 k x3 x4 x5 x6 x7 (!t350))) else (surmiselaw03_ExprValues.j1 k x3 x4 x5 x6 x7 true)))
def surmiselaw03_ExprValues.j1 : Nat → List (S45) → List Int → List Int → Int → Int → Bool → Option (Bool)
 | 0, _, _, _, _, _, _ => none
 | k + 1, x3, x4, x5, x6, x7, x50 => if x50 = true then ((surmiseref03_Value.f x7).bind fun t351 => (some t351)) else ((expr_Uses.f k x3).bind fun bt352 => ((some (([] : List Int) : List Int)).bind fun y358 => (if y358.length + x4.length < 17592186044416 then ((some (([] : List Int) : List Int)).bind fun y364 => (if y364.length + x5.length < 17592186044416 then (surmiselaw03_ExprValues.l0 k x3 x6 x7 bt352.1 bt352.2 (y358 ++ x4) (y364 ++ x5) 0) else (none))) else (none))))
def surmiselaw03_ExprValues.l0 : Nat → List (S45) → Int → Int → List Bool → List Bool → List Int → List Int → Int → Option (Bool)
 | 0, _, _, _, _, _, _, _, _ => none
 | k + 1, x3, x6, x7, x9, x10, x11, x12, x13 => if x13 < (x11.length : Int) then (if x13 < 6 then (if x13 ≥ (x9.length : Int) then (if 0 ≤ x13 then (surmiselaw03_ExprValues.l0 k x3 x6 x7 x9 x10 (x11.set (x13 : Int).toNat x6) x12 (wrap64 (x13 + 1))) else (none)) else (if 0 ≤ x13 then (if x13 < (x9.length : Int) then (if rdOf false x9 x13 = true then (surmiselaw03_ExprValues.l0 k x3 x6 x7 x9 x10 x11 x12 (wrap64 (x13 + 1))) else (surmiselaw03_ExprValues.l0 k x3 x6 x7 x9 x10 (x11.set (x13 : Int).toNat x6) x12 (wrap64 (x13 + 1)))) else (none)) else (none))) else (surmiselaw03_ExprValues.l0 k x3 x6 x7 x9 x10 x11 x12 (wrap64 (x13 + 1)))) else (surmiselaw03_ExprValues.l1 k x3 x6 x7 x10 x11 x12 0)
def surmiselaw03_ExprValues.l1 : Nat → List (S45) → Int → Int → List Bool → List Int → List Int → Int → Option (Bool)
 | 0, _, _, _, _, _, _, _ => none
 | k + 1, x3, x6, x7, x10, x11, x12, x14 => if x14 < (x12.length : Int) then (if x14 < 4 then (if x14 ≥ (x10.length : Int) then (if 0 ≤ x14 then (surmiselaw03_ExprValues.l1 k x3 x6 x7 x10 x11 (x12.set (x14 : Int).toNat x6) (wrap64 (x14 + 1))) else (none)) else (if 0 ≤ x14 then (if x14 < (x10.length : Int) then (if rdOf false x10 x14 = true then (surmiselaw03_ExprValues.l1 k x3 x6 x7 x10 x11 x12 (wrap64 (x14 + 1))) else (surmiselaw03_ExprValues.l1 k x3 x6 x7 x10 x11 (x12.set (x14 : Int).toNat x6) (wrap64 (x14 + 1)))) else (none)) else (none))) else (surmiselaw03_ExprValues.l1 k x3 x6 x7 x10 x11 x12 (wrap64 (x14 + 1)))) else ((expr_Eval.f k x3 x11 x12).bind fun bt376 => (if bt376.2 = 0 then (some (bt376.1 == x7)) else (none)))
end
def surmiselaw03_ExprValues.f (k : Nat) (l0_0 : List (S45)) (l0_1 : List Int) (l0_2 : List Int) (a0_3 : Int) : Option (Bool) := (expr_Eval.f k l0_0 l0_1 l0_2).bind fun bt345 => ((surmiselaw03_awake.f k).bind fun t347 => (if t347 = true then (surmiselaw03_ExprValues.j0 k l0_0 l0_1 l0_2 a0_3 bt345.1 (bt345.2 != 0)) else (surmiselaw03_ExprValues.j0 k l0_0 l0_1 l0_2 a0_3 bt345.1 true)))
theorem surmiselaw03_ExprValues.mono_l : ∀ k, (∀ y0 y1 y2 y3 y4 y5, LeO (surmiselaw03_ExprValues.j0 k y0 y1 y2 y3 y4 y5) (surmiselaw03_ExprValues.j0 (k + 1) y0 y1 y2 y3 y4 y5)) ∧ (∀ y0 y1 y2 y3 y4 y5, LeO (surmiselaw03_ExprValues.j1 k y0 y1 y2 y3 y4 y5) (surmiselaw03_ExprValues.j1 (k + 1) y0 y1 y2 y3 y4 y5)) ∧ (∀ y0 y1 y2 y3 y4 y5 y6 y7, LeO (surmiselaw03_ExprValues.l0 k y0 y1 y2 y3 y4 y5 y6 y7) (surmiselaw03_ExprValues.l0 (k + 1) y0 y1 y2 y3 y4 y5 y6 y7)) ∧ (∀ y0 y1 y2 y3 y4 y5 y6, LeO (surmiselaw03_ExprValues.l1 k y0 y1 y2 y3 y4 y5 y6) (surmiselaw03_ExprValues.l1 (k + 1) y0 y1 y2 y3 y4 y5 y6))
 | 0 => ⟨fun _ _ _ _ _ _ r h => by simp [surmiselaw03_ExprValues.j0] at h, fun _ _ _ _ _ _ r h => by simp [surmiselaw03_ExprValues.j1] at h, fun _ _ _ _ _ _ _ _ r h => by simp [surmiselaw03_ExprValues.l0] at h, fun _ _ _ _ _ _ _ r h => by simp [surmiselaw03_ExprValues.l1] at h⟩
 | k + 1 => by
  obtain ⟨ih0, ih1, ih2, ih3⟩ := surmiselaw03_ExprValues.mono_l k
  refine ⟨?_, ?_, ?_, ?_⟩
  ·
   intro y0 y1 y2 y3 y4 y5
   unfold surmiselaw03_ExprValues.j0
   repeat' first
   | (with_reducible exact ih0 _ _ _ _ _ _)
   | (with_reducible exact ih1 _ _ _ _ _ _)
   | (with_reducible exact ih2 _ _ _ _ _ _ _ _)
   | (with_reducible exact ih3 _ _ _ _ _ _ _)
   | (with_reducible exact expr_Eval.mono _ _ _ _)
   | (with_reducible exact expr_Uses.mono _ _)
   | (with_reducible exact surmiselaw03_awake.mono _)
   | (with_reducible exact LeO.refl _)
   | (with_reducible exact LeO.none _)
   | (with_reducible refine LeO.ite ?_ ?_)
   | (with_reducible refine LeO.bind ?_ (fun _ => ?_))
   | exact ih0 _ _ _ _ _ _
   | exact ih1 _ _ _ _ _ _
   | exact ih2 _ _ _ _ _ _ _ _
   | exact ih3 _ _ _ _ _ _ _
   | exact expr_Eval.mono _ _ _ _
   | exact expr_Uses.mono _ _
   | exact surmiselaw03_awake.mono _
   | exact LeO.none _
   | refine LeO.ite ?_ ?_
   | refine LeO.bind ?_ (fun _ => ?_)
  ·
   intro y0 y1 y2 y3 y4 y5
   unfold surmiselaw03_ExprValues.j1
   repeat' first
   | (with_reducible exact ih0 _ _ _ _ _ _)
   | (with_reducible exact ih1 _ _ _ _ _ _)
   | (with_reducible exact ih2 _ _ _ _ _ _ _ _)
   | (with_reducible exact ih3 _ _ _ _ _ _ _)
   | (with_reducible exact expr_Eval.mono _ _ _ _)
   | (with_reducible exact expr_Uses.mono _ _)
   | (with_reducible exact surmiselaw03_awake.mono _)
   | (with_reducible exact LeO.refl _)
   | (with_reducible exact LeO.none _)
   | (with_reducible refine LeO.ite ?_ ?_)
   | (with_reducible refine LeO.bind ?_ (fun _ => ?_))
   | exact ih0 _ _ _ _ _ _
   | exact ih1 _ _ _ _ _ _
   | exact ih2 _ _ _ _ _ _ _ _
   | exact ih3 _ _ _ _ _ _ _
   | exact expr_Eval.mono _ _ _ _
   | exact expr_Uses.mono _ _
   | exact surmiselaw03_awake.mono _
   | exact LeO.none _
   | refine LeO.ite ?_ ?_
   | refine LeO.bind ?_ (fun _ => ?_)
  ·
   intro y0 y1 y2 y3 y4 y5 y6 y7
   unfold surmiselaw03_ExprValues.l0
   repeat' first
   | (with_reducible exact ih0 _ _ _ _ _ _)
   | (with_reducible exact ih1 _ _ _ _ _ _)
   | (with_reducible exact ih2 _ _ _ _ _ _ _ _)
   | (with_reducible exact ih3 _ _ _ _ _ _ _)
   | (with_reducible exact expr_Eval.mono _ _ _ _)
   | (with_reducible exact expr_Uses.mono _ _)
   | (with_reducible exact surmiselaw03_awake.mono _)
   | (with_reducible exact LeO.refl _)
   | (with_reducible exact LeO.none _)
   | (with_reducible refine LeO.ite ?_ ?_)
   | (with_reducible refine LeO.bind ?_ (fun _ => ?_))
   | exact ih0 _ _ _ _ _ _
   | exact ih1 _ _ _ _ _ _
   | exact ih2 _ _ _ _ _ _ _ _
   | exact ih3 _ _ _ _ _ _ _
   | exact expr_Eval.mono _ _ _ _
   | exact expr_Uses.mono _ _
   | exact surmiselaw03_awake.mono _
   | exact LeO.none _
   | refine LeO.ite ?_ ?_
   | refine LeO.bind ?_ (fun _ => ?_)
  ·
   intro y0 y1 y2 y3 y4 y5 y6
   unfold surmiselaw03_ExprValues.l1
   repeat' first
   | (with_reducible exact ih0 _ _ _ _ _ _)
   | (with_reducible exact ih1 _ _ _ _ _ _)
   | (with_reducible exact ih2 _ _ _ _ _ _ _ _)
   | (with_reducible exact ih3 _ _ _ _ _ _ _)
   | (with_reducible exact expr_Eval.mono _ _ _ _)
   | (with_reducible exact expr_Uses.mono _ _)
   | (with_reducible exact surmiselaw03_awake.mono _)
   | (with_reducible exact LeO.refl _)
   | (with_reducible exact LeO.none _)
   | (with_reducible refine LeO.ite ?_ ?_)
   | (with_reducible refine LeO.bind ?_ (fun _ => ?_))
   | exact ih0 _ _ _ _ _ _
   | exact ih1 _ _ _ _ _ _
   | exact ih2 _ _ _ _ _ _ _ _
   | exact ih3 _ _ _ _ _ _ _
   | exact expr_Eval.mono _ _ _ _
   | exact expr_Uses.mono _ _
   | exact surmiselaw03_awake.mono _
   | exact LeO.none _
   | refine LeO.ite ?_ ?_
   | refine LeO.bind ?_ (fun _ => ?_)
theorem surmiselaw03_ExprValues.mono : ∀ a0 a1 a2 a3 k, LeO (surmiselaw03_ExprValues.f k a0 a1 a2 a3) (surmiselaw03_ExprValues.f (k + 1) a0 a1 a2 a3) := by
 intro a0 a1 a2 a3 k
 obtain ⟨ih0, ih1, ih2, ih3⟩ := surmiselaw03_ExprValues.mono_l k
 unfold surmiselaw03_ExprValues.f
 repeat' first
   | (with_reducible exact ih0 _ _ _ _ _ _)
   | (with_reducible exact ih1 _ _ _ _ _ _)
   | (with_reducible exact ih2 _ _ _ _ _ _ _ _)
   | (with_reducible exact ih3 _ _ _ _ _ _ _)
   | (with_reducible exact expr_Eval.mono _ _ _ _)
   | (with_reducible exact expr_Uses.mono _ _)
   | (with_reducible exact surmiselaw03_awake.mono _)
   | (with_reducible exact LeO.refl _)
   | (with_reducible exact LeO.none _)
   | (with_reducible refine LeO.ite ?_ ?_)
   | (with_reducible refine LeO.bind ?_ (fun _ => ?_))
   | exact ih0 _ _ _ _ _ _
   | exact ih1 _ _ _ _ _ _
   | exact ih2 _ _ _ _ _ _ _ _
   | exact ih3 _ _ _ _ _ _ _
   | exact expr_Eval.mono _ _ _ _
   | exact expr_Uses.mono _ _
   | exact surmiselaw03_awake.mono _
   | exact LeO.none _
   | refine LeO.ite ?_ ?_
   | refine LeO.bind ?_ (fun _ => ?_)
set_option maxHeartbeats 8000000 in
set_option maxRecDepth 100000 in
theorem surmiselaw03_ExprValues.calls (k : Nat) (A0_0 : Option Addr) (c0_0 : Nat) (l0_0 : List (S45)) (A0_1 : Option Addr) (c0_1 : Nat) (l0_1 : List Int) (A0_2 : Option Addr) (c0_2 : Nat) (l0_2 : List Int) (a0_3 : Int) (r : Bool) (w : World) (hr0_0 : Kd.C k45 w A0_0 l0_0.length l0_0) (hc0_0 : l0_0.length ≤ c0_0) (hr0_1 : Kd.C (Kd.int .i64) w A0_1 l0_1.length l0_1) (hc0_1 : l0_1.length ≤ c0_1) (hr0_2 : Kd.C (Kd.int .i64) w A0_2 l0_2.length l0_2) (hc0_2 : l0_2.length ≤ c0_2) (h : surmiselaw03_ExprValues.f k l0_0 l0_1 l0_2 a0_3 = some r) :
  Calls Try.prog 7 #[.agg #[.slice A0_0 l0_0.length c0_0, .slice A0_1 l0_1.length c0_1, .slice A0_2 l0_2.length c0_2, .int .i64 a0_3]] w fun e w' => e = .returned (.bool r) ∧ Below w.heap.size w w' := by
 have hu41 := Try.underlying41
 have HR0_0 := Am hr0_0
 have HC0_0 := Am hc0_0
 clear hr0_0 hc0_0
 have HR0_1 := Am hr0_1
 have HC0_1 := Am hc0_1
 clear hr0_1 hc0_1
 have HR0_2 := Am hr0_2
 have HC0_2 := Am hc0_2
 clear hr0_2 hc0_2
 have HB := Am (Below.refl w.heap.size w)
 have H : ((expr_Eval.f k l0_0 l0_1 l0_2).bind fun bt345 => ((surmiselaw03_awake.f k).bind fun t347 => (if t347 = true then (surmiselaw03_ExprValues.j0 k l0_0 l0_1 l0_2 a0_3 bt345.1 (bt345.2 != 0)) else (surmiselaw03_ExprValues.j0 k l0_0 l0_1 l0_2 a0_3 bt345.1 true)))) = some r := h
 clear h
 replace H := Option.bind_eq_some_iff.mp H
 obtain ⟨⟨t345, t346⟩, A20, H⟩ := H
 replace H : ((surmiselaw03_awake.f k).bind fun t347 => (if t347 = true then (surmiselaw03_ExprValues.j0 k l0_0 l0_1 l0_2 a0_3 t345 (t346 != 0)) else (surmiselaw03_ExprValues.j0 k l0_0 l0_1 l0_2 a0_3 t345 true))) = some r := H
 have A2 := Am A20
 clear A20
 have HC3 := Am H
 clear H
 go_enter Try.func7, Try.ntmps7
 go_upto_region 3 with (first | ((with_reducible refine gate_dst (N := 1) rfl ?_); (try (refine gate_guard (by rfl) ?_; dsimp only)); refine box_event ?hg (N := 1) ?hd (cs := #[.slice A0_0 l0_0.length c0_0, .slice A0_1 l0_1.length c0_1, .slice A0_2 l0_2.length c0_2, .int .i64 a0_3]) (t := 41) ?hr ?_; (case hd => rfl); (case hg => rfl); (case hr => first | (go_simp; done) | (go_simp; rfl)); intro gb344 hg w4 hbox hb; have n0_ := Am (below_step (bl) hb); have n1_ := Am (hbox); have n2_ := Am ((by rw [hg]; exact (below_size (bl)) : w.heap.size ≤ gb344)); have n3_ := Am ((by rw [hg]; exact (below_size (bl)) : w.heap.size ≤ gb344)); clear HB; have HB := n0_; have BK344 := n1_; have GW344 := n2_; have GE344 := n3_; clear n0_ n1_ n2_ n3_; clear hb hbox hg; have hcz5_0 : w4.cell? ⟨gb344, 0, none⟩ = some (.slice A0_0 l0_0.length c0_0) := (blk_cell BK344.out 0).trans rfl; have hcz5_1 : w4.cell? ⟨gb344, 1, none⟩ = some (.slice A0_1 l0_1.length c0_1) := (blk_cell BK344.out 1).trans rfl; have hcz5_2 : w4.cell? ⟨gb344, 2, none⟩ = some (.slice A0_2 l0_2.length c0_2) := (blk_cell BK344.out 2).trans rfl; have hcz5_3 : w4.cell? ⟨gb344, 3, none⟩ = some (.int .i64 a0_3) := (blk_cell BK344.out 3).trans rfl; have hfz5_0 := blk_frozen BK344.out 0; have hfz5_1 := blk_frozen BK344.out 1; have hfz5_2 := blk_frozen BK344.out 2; have hfz5_3 := blk_frozen BK344.out 3) | (go_at_call 11; (with_reducible refine (expr_Eval.calls k _ _ l0_0 _ _ l0_1 _ _ l0_2 t345 t346 _ ?side1 ?side2 ?side3 ?side4 ?side5 ?side6 A2.out).mono ?_); (case side1 => repeat (first | exact (Kd.C_below HR0_0.out HB.out) | (with_reducible refine Kd.C_alloc ?_ _) | (with_reducible refine Kd.C_drewN ?_ _) | (with_reducible refine Kd.C_drew ?_))); (case side2 => exact HC0_0.out); (case side3 => repeat (first | exact (Kd.C_below HR0_1.out HB.out) | (with_reducible refine Kd.C_alloc ?_ _) | (with_reducible refine Kd.C_drewN ?_ _) | (with_reducible refine Kd.C_drew ?_))); (case side4 => exact HC0_1.out); (case side5 => repeat (first | exact (Kd.C_below HR0_2.out HB.out) | (with_reducible refine Kd.C_alloc ?_ _) | (with_reducible refine Kd.C_drewN ?_ _) | (with_reducible refine Kd.C_drew ?_))); (case side6 => exact HC0_2.out); rintro e w6 ⟨rfl, hb⟩; have n0_ := Am (blk_below (g := gb344) (o := .cells #[.slice A0_0 l0_0.length c0_0, .slice A0_1 l0_1.length c0_1, .slice A0_2 l0_2.length c0_2, .int .i64 a0_3] 41 (0, 0)) (kB BK344) hb); have n1_ := Am (below_step (by repeat (first | (with_reducible first | exact HB.out | apply below_alloc | apply pw_below_drewN | apply below_drew1 | refine below_set ?_ GE344.out) | exact HB.out)) hb); clear BK344; clear HB; have BK344 := n0_; have HB := n1_; clear n0_ n1_; (try clear hb); (try clear hb2); (try clear hk); (try clear hi)))
 repeat (go_quiet (first | ((with_reducible refine gate_dst (N := 1) rfl ?_); (try (refine gate_guard (by rfl) ?_; dsimp only)); refine box_event ?hg (N := 1) ?hd (cs := #[.slice A0_0 l0_0.length c0_0, .slice A0_1 l0_1.length c0_1, .slice A0_2 l0_2.length c0_2, .int .i64 a0_3]) (t := 41) ?hr ?_; (case hd => rfl); (case hg => rfl); (case hr => first | (go_simp; done) | (go_simp; rfl)); intro gb344 hg w4 hbox hb; have n0_ := Am (below_step (bl) hb); have n1_ := Am (hbox); have n2_ := Am ((by rw [hg]; exact (below_size (bl)) : w.heap.size ≤ gb344)); have n3_ := Am ((by rw [hg]; exact (below_size (bl)) : w.heap.size ≤ gb344)); clear HB; have HB := n0_; have BK344 := n1_; have GW344 := n2_; have GE344 := n3_; clear n0_ n1_ n2_ n3_; clear hb hbox hg; have hcz5_0 : w4.cell? ⟨gb344, 0, none⟩ = some (.slice A0_0 l0_0.length c0_0) := (blk_cell BK344.out 0).trans rfl; have hcz5_1 : w4.cell? ⟨gb344, 1, none⟩ = some (.slice A0_1 l0_1.length c0_1) := (blk_cell BK344.out 1).trans rfl; have hcz5_2 : w4.cell? ⟨gb344, 2, none⟩ = some (.slice A0_2 l0_2.length c0_2) := (blk_cell BK344.out 2).trans rfl; have hcz5_3 : w4.cell? ⟨gb344, 3, none⟩ = some (.int .i64 a0_3) := (blk_cell BK344.out 3).trans rfl; have hfz5_0 := blk_frozen BK344.out 0; have hfz5_1 := blk_frozen BK344.out 1; have hfz5_2 := blk_frozen BK344.out 2; have hfz5_3 := blk_frozen BK344.out 3) | (go_at_call 11; (with_reducible refine (expr_Eval.calls k _ _ l0_0 _ _ l0_1 _ _ l0_2 t345 t346 _ ?side1 ?side2 ?side3 ?side4 ?side5 ?side6 A2.out).mono ?_); (case side1 => repeat (first | exact (Kd.C_below HR0_0.out HB.out) | (with_reducible refine Kd.C_alloc ?_ _) | (with_reducible refine Kd.C_drewN ?_ _) | (with_reducible refine Kd.C_drew ?_))); (case side2 => exact HC0_0.out); (case side3 => repeat (first | exact (Kd.C_below HR0_1.out HB.out) | (with_reducible refine Kd.C_alloc ?_ _) | (with_reducible refine Kd.C_drewN ?_ _) | (with_reducible refine Kd.C_drew ?_))); (case side4 => exact HC0_1.out); (case side5 => repeat (first | exact (Kd.C_below HR0_2.out HB.out) | (with_reducible refine Kd.C_alloc ?_ _) | (with_reducible refine Kd.C_drewN ?_ _) | (with_reducible refine Kd.C_drew ?_))); (case side6 => exact HC0_2.out); rintro e w6 ⟨rfl, hb⟩; have n0_ := Am (blk_below (g := gb344) (o := .cells #[.slice A0_0 l0_0.length c0_0, .slice A0_1 l0_1.length c0_1, .slice A0_2 l0_2.length c0_2, .int .i64 a0_3] 41 (0, 0)) (kB BK344) hb); have n1_ := Am (below_step (by repeat (first | (with_reducible first | exact HB.out | apply below_alloc | apply pw_below_drewN | apply below_drew1 | refine below_set ?_ GE344.out) | exact HB.out)) hb); clear BK344; clear HB; have BK344 := n0_; have HB := n1_; clear n0_ n1_; (try clear hb); (try clear hb2); (try clear hk); (try clear hi))); go_upto_region 3 with (first | ((with_reducible refine gate_dst (N := 1) rfl ?_); (try (refine gate_guard (by rfl) ?_; dsimp only)); refine box_event ?hg (N := 1) ?hd (cs := #[.slice A0_0 l0_0.length c0_0, .slice A0_1 l0_1.length c0_1, .slice A0_2 l0_2.length c0_2, .int .i64 a0_3]) (t := 41) ?hr ?_; (case hd => rfl); (case hg => rfl); (case hr => first | (go_simp; done) | (go_simp; rfl)); intro gb344 hg w4 hbox hb; have n0_ := Am (below_step (bl) hb); have n1_ := Am (hbox); have n2_ := Am ((by rw [hg]; exact (below_size (bl)) : w.heap.size ≤ gb344)); have n3_ := Am ((by rw [hg]; exact (below_size (bl)) : w.heap.size ≤ gb344)); clear HB; have HB := n0_; have BK344 := n1_; have GW344 := n2_; have GE344 := n3_; clear n0_ n1_ n2_ n3_; clear hb hbox hg; have hcz5_0 : w4.cell? ⟨gb344, 0, none⟩ = some (.slice A0_0 l0_0.length c0_0) := (blk_cell BK344.out 0).trans rfl; have hcz5_1 : w4.cell? ⟨gb344, 1, none⟩ = some (.slice A0_1 l0_1.length c0_1) := (blk_cell BK344.out 1).trans rfl; have hcz5_2 : w4.cell? ⟨gb344, 2, none⟩ = some (.slice A0_2 l0_2.length c0_2) := (blk_cell BK344.out 2).trans rfl; have hcz5_3 : w4.cell? ⟨gb344, 3, none⟩ = some (.int .i64 a0_3) := (blk_cell BK344.out 3).trans rfl; have hfz5_0 := blk_frozen BK344.out 0; have hfz5_1 := blk_frozen BK344.out 1; have hfz5_2 := blk_frozen BK344.out 2; have hfz5_3 := blk_frozen BK344.out 3) | (go_at_call 11; (with_reducible refine (expr_Eval.calls k _ _ l0_0 _ _ l0_1 _ _ l0_2 t345 t346 _ ?side1 ?side2 ?side3 ?side4 ?side5 ?side6 A2.out).mono ?_); (case side1 => repeat (first | exact (Kd.C_below HR0_0.out HB.out) | (with_reducible refine Kd.C_alloc ?_ _) | (with_reducible refine Kd.C_drewN ?_ _) | (with_reducible refine Kd.C_drew ?_))); (case side2 => exact HC0_0.out); (case side3 => repeat (first | exact (Kd.C_below HR0_1.out HB.out) | (with_reducible refine Kd.C_alloc ?_ _) | (with_reducible refine Kd.C_drewN ?_ _) | (with_reducible refine Kd.C_drew ?_))); (case side4 => exact HC0_1.out); (case side5 => repeat (first | exact (Kd.C_below HR0_2.out HB.out) | (with_reducible refine Kd.C_alloc ?_ _) | (with_reducible refine Kd.C_drewN ?_ _) | (with_reducible refine Kd.C_drew ?_))); (case side6 => exact HC0_2.out); rintro e w6 ⟨rfl, hb⟩; have n0_ := Am (blk_below (g := gb344) (o := .cells #[.slice A0_0 l0_0.length c0_0, .slice A0_1 l0_1.length c0_1, .slice A0_2 l0_2.length c0_2, .int .i64 a0_3] 41 (0, 0)) (kB BK344) hb); have n1_ := Am (below_step (by repeat (first | (with_reducible first | exact HB.out | apply below_alloc | apply pw_below_drewN | apply below_drew1 | refine below_set ?_ GE344.out) | exact HB.out)) hb); clear BK344; clear HB; have BK344 := n0_; have HB := n1_; clear n0_ n1_; (try clear hb); (try clear hb2); (try clear hk); (try clear hi))))
 (try simp only [Act.put, List.setIfInBounds_toArray, List.set_cons_zero, List.set_cons_succ])
 go_cut [37] (fun v37 wc => ∃ (kq : Nat) (x37_2 : Bool), v37 = .bool x37_2 ∧ Aside0 (surmiselaw03_ExprValues.j0 kq l0_0 l0_1 l0_2 a0_3 t345 x37_2 = some r) ∧ Aside0 (kq ≤ k) ∧ Aside0 (wc.heap[gb344]? = some (.cells #[(.slice A0_0 l0_0.length c0_0), (.slice A0_1 l0_1.length c0_1), (.slice A0_2 l0_2.length c0_2), .int .i64 a0_3] 41 (0, 0))) ∧ Aside0 (Below w.heap.size w wc))
 case first =>
  have H := HC3.out
  clear HC3
  replace H := Option.bind_eq_some_iff.mp H
  obtain ⟨t347, A70, H⟩ := H
  replace H : (if t347 = true then (surmiselaw03_ExprValues.j0 k l0_0 l0_1 l0_2 a0_3 t345 (t346 != 0)) else (surmiselaw03_ExprValues.j0 k l0_0 l0_1 l0_2 a0_3 t345 true)) = some r := H
  have A7 := Am A70
  clear A70
  by_cases c8 : t347 = true
  ·
   subst c8
   have H1 : (surmiselaw03_ExprValues.j0 k l0_0 l0_1 l0_2 a0_3 t345 (t346 != 0)) = some r := by rw [if_pos rfl] at H; exact H
   clear H
   have H := H1
   clear H1
   have H' := Am H
   clear H
   go_wp2_with (first | (go_at_call 10; (with_reducible refine (surmiselaw03_awake.calls k  true _ A7.out).mono ?_); rintro e w9 ⟨rfl, hb⟩; have n0_ := Am (blk_below (g := gb344) (o := .cells #[.slice A0_0 l0_0.length c0_0, .slice A0_1 l0_1.length c0_1, .slice A0_2 l0_2.length c0_2, .int .i64 a0_3] 41 (0, 0)) (kB BK344) hb); have n1_ := Am (below_step (by repeat (first | (with_reducible first | exact HB.out | apply below_alloc | apply pw_below_drewN | apply below_drew1 | refine below_set ?_ GE344.out) | exact HB.out)) hb); clear BK344; clear HB; have BK344 := n0_; have HB := n1_; clear n0_ n1_; (try clear hb); (try clear hb2); (try clear hk); (try clear hi)))
   repeat (go_quiet (first | (go_at_call 10; (with_reducible refine (surmiselaw03_awake.calls k  true _ A7.out).mono ?_); rintro e w9 ⟨rfl, hb⟩; have n0_ := Am (blk_below (g := gb344) (o := .cells #[.slice A0_0 l0_0.length c0_0, .slice A0_1 l0_1.length c0_1, .slice A0_2 l0_2.length c0_2, .int .i64 a0_3] 41 (0, 0)) (kB BK344) hb); have n1_ := Am (below_step (by repeat (first | (with_reducible first | exact HB.out | apply below_alloc | apply pw_below_drewN | apply below_drew1 | refine below_set ?_ GE344.out) | exact HB.out)) hb); clear BK344; clear HB; have BK344 := n0_; have HB := n1_; clear n0_ n1_; (try clear hb); (try clear hb2); (try clear hk); (try clear hi))); try go_wp2_with (first | (go_at_call 10; (with_reducible refine (surmiselaw03_awake.calls k  true _ A7.out).mono ?_); rintro e w9 ⟨rfl, hb⟩; have n0_ := Am (blk_below (g := gb344) (o := .cells #[.slice A0_0 l0_0.length c0_0, .slice A0_1 l0_1.length c0_1, .slice A0_2 l0_2.length c0_2, .int .i64 a0_3] 41 (0, 0)) (kB BK344) hb); have n1_ := Am (below_step (by repeat (first | (with_reducible first | exact HB.out | apply below_alloc | apply pw_below_drewN | apply below_drew1 | refine below_set ?_ GE344.out) | exact HB.out)) hb); clear BK344; clear HB; have BK344 := n0_; have HB := n1_; clear n0_ n1_; (try clear hb); (try clear hb2); (try clear hk); (try clear hi))))
   go_meet
   case rel => exact ⟨_, ((t346 != 0)), rq, H', ⟨by first | omega | exact Nat.le_refl _⟩, ⟨kB BK344⟩, ⟨by repeat (first | (with_reducible first | exact HB.out | apply below_alloc | apply pw_below_drewN | apply below_drew1 | refine below_set ?_ GE344.out) | exact HB.out)⟩⟩
  ·
   replace c8 := Bool.eq_false_iff.mpr c8
   subst c8
   have H1 : (surmiselaw03_ExprValues.j0 k l0_0 l0_1 l0_2 a0_3 t345 true) = some r := by rw [if_neg (show ¬ (false = true) by decide)] at H; exact H
   clear H
   have H := H1
   clear H1
   have H' := Am H
   clear H
   go_wp2_with (first | (go_at_call 10; (with_reducible refine (surmiselaw03_awake.calls k  false _ A7.out).mono ?_); rintro e w10 ⟨rfl, hb⟩; have n0_ := Am (blk_below (g := gb344) (o := .cells #[.slice A0_0 l0_0.length c0_0, .slice A0_1 l0_1.length c0_1, .slice A0_2 l0_2.length c0_2, .int .i64 a0_3] 41 (0, 0)) (kB BK344) hb); have n1_ := Am (below_step (by repeat (first | (with_reducible first | exact HB.out | apply below_alloc | apply pw_below_drewN | apply below_drew1 | refine below_set ?_ GE344.out) | exact HB.out)) hb); clear BK344; clear HB; have BK344 := n0_; have HB := n1_; clear n0_ n1_; (try clear hb); (try clear hb2); (try clear hk); (try clear hi)))
   repeat (go_quiet (first | (go_at_call 10; (with_reducible refine (surmiselaw03_awake.calls k  false _ A7.out).mono ?_); rintro e w10 ⟨rfl, hb⟩; have n0_ := Am (blk_below (g := gb344) (o := .cells #[.slice A0_0 l0_0.length c0_0, .slice A0_1 l0_1.length c0_1, .slice A0_2 l0_2.length c0_2, .int .i64 a0_3] 41 (0, 0)) (kB BK344) hb); have n1_ := Am (below_step (by repeat (first | (with_reducible first | exact HB.out | apply below_alloc | apply pw_below_drewN | apply below_drew1 | refine below_set ?_ GE344.out) | exact HB.out)) hb); clear BK344; clear HB; have BK344 := n0_; have HB := n1_; clear n0_ n1_; (try clear hb); (try clear hb2); (try clear hk); (try clear hi))); try go_wp2_with (first | (go_at_call 10; (with_reducible refine (surmiselaw03_awake.calls k  false _ A7.out).mono ?_); rintro e w10 ⟨rfl, hb⟩; have n0_ := Am (blk_below (g := gb344) (o := .cells #[.slice A0_0 l0_0.length c0_0, .slice A0_1 l0_1.length c0_1, .slice A0_2 l0_2.length c0_2, .int .i64 a0_3] 41 (0, 0)) (kB BK344) hb); have n1_ := Am (below_step (by repeat (first | (with_reducible first | exact HB.out | apply below_alloc | apply pw_below_drewN | apply below_drew1 | refine below_set ?_ GE344.out) | exact HB.out)) hb); clear BK344; clear HB; have BK344 := n0_; have HB := n1_; clear n0_ n1_; (try clear hb); (try clear hb2); (try clear hk); (try clear hi))))
   go_meet
   case rel => exact ⟨_, (true), rq, H', ⟨by first | omega | exact Nat.le_refl _⟩, ⟨kB BK344⟩, ⟨by repeat (first | (with_reducible first | exact HB.out | apply below_alloc | apply pw_below_drewN | apply below_drew1 | refine below_set ?_ GE344.out) | exact HB.out)⟩⟩
 case rest =>
  clear HC3
  try clear p2
  try clear c7
  try clear c8
  try clear hcz5_0
  try clear hcz5_1
  try clear hcz5_2
  try clear hcz5_3
  try clear hfz5_0
  try clear hfz5_1
  try clear hfz5_2
  try clear hfz5_3
  obtain ⟨kq, x37_2, rfl, HA, HJ2, BK344, HB⟩ := hcut
  cases kq with
  | zero => exact absurd HA.out (by simp [surmiselaw03_ExprValues.j0])
  | succ kj2 =>
   have H := HA.out
   clear HA
   simp only [surmiselaw03_ExprValues.j0] at H
   by_cases c11 : x37_2 = true
   ·
    subst c11
    have H1 : ((surmiselaw03_awake.f kj2).bind fun t348 => (if t348 = true then (some (t345 == 0)) else (none))) = some r := by rw [if_pos rfl] at H; exact H
    clear H
    have H := H1
    clear H1
    replace H := Option.bind_eq_some_iff.mp H
    obtain ⟨t348, A120, H⟩ := H
    replace H : (if t348 = true then (some (t345 == 0)) else (none)) = some r := H
    have A12 := Am A120
    clear A120
    by_cases c13 : t348 = true
    ·
     subst c13
     have H1 : (some (t345 == 0)) = some r := by rw [if_pos rfl] at H; exact H
     clear H
     have H := H1
     clear H1
     obtain rfl := Option.some.inj H
     go_wp2_with (first | (go_at_call 10; (with_reducible refine (surmiselaw03_awake.calls kj2  true _ A12.out).mono ?_); rintro e w14 ⟨rfl, hb⟩; have n0_ := Am (blk_below (g := gb344) (o := .cells #[.slice A0_0 l0_0.length c0_0, .slice A0_1 l0_1.length c0_1, .slice A0_2 l0_2.length c0_2, .int .i64 a0_3] 41 (0, 0)) (kB BK344) hb); have n1_ := Am (below_step (by repeat (first | (with_reducible first | exact HB.out | apply below_alloc | apply pw_below_drewN | apply below_drew1 | refine below_set ?_ GE344.out) | exact HB.out)) hb); clear BK344; clear HB; have BK344 := n0_; have HB := n1_; clear n0_ n1_; (try clear hb); (try clear hb2); (try clear hk); (try clear hi)))
     repeat (go_quiet (first | (go_at_call 10; (with_reducible refine (surmiselaw03_awake.calls kj2  true _ A12.out).mono ?_); rintro e w14 ⟨rfl, hb⟩; have n0_ := Am (blk_below (g := gb344) (o := .cells #[.slice A0_0 l0_0.length c0_0, .slice A0_1 l0_1.length c0_1, .slice A0_2 l0_2.length c0_2, .int .i64 a0_3] 41 (0, 0)) (kB BK344) hb); have n1_ := Am (below_step (by repeat (first | (with_reducible first | exact HB.out | apply below_alloc | apply pw_below_drewN | apply below_drew1 | refine below_set ?_ GE344.out) | exact HB.out)) hb); clear BK344; clear HB; have BK344 := n0_; have HB := n1_; clear n0_ n1_; (try clear hb); (try clear hb2); (try clear hk); (try clear hi))); try go_wp2_with (first | (go_at_call 10; (with_reducible refine (surmiselaw03_awake.calls kj2  true _ A12.out).mono ?_); rintro e w14 ⟨rfl, hb⟩; have n0_ := Am (blk_below (g := gb344) (o := .cells #[.slice A0_0 l0_0.length c0_0, .slice A0_1 l0_1.length c0_1, .slice A0_2 l0_2.length c0_2, .int .i64 a0_3] 41 (0, 0)) (kB BK344) hb); have n1_ := Am (below_step (by repeat (first | (with_reducible first | exact HB.out | apply below_alloc | apply pw_below_drewN | apply below_drew1 | refine below_set ?_ GE344.out) | exact HB.out)) hb); clear BK344; clear HB; have BK344 := n0_; have HB := n1_; clear n0_ n1_; (try clear hb); (try clear hb2); (try clear hk); (try clear hi))))
     go_ret
     exact ⟨xq, by repeat (first | (with_reducible first | exact HB.out | apply below_alloc | apply pw_below_drewN | apply below_drew1 | refine below_set ?_ GE344.out) | exact HB.out)⟩
    ·
     replace c13 := Bool.eq_false_iff.mpr c13
     subst c13
     have H1 : (none) = some r := by rw [if_neg (show ¬ (false = true) by decide)] at H; exact H
     clear H
     have H := H1
     clear H1
     exact absurd H (by simp)
   ·
    replace c11 := Bool.eq_false_iff.mpr c11
    subst c11
    have H1 : ((surmiseref03_Value.f t345).bind fun t349 => (if t349 = true then ((surmiseref03_Value.f a0_3).bind fun t350 => (surmiselaw03_ExprValues.j1 kj2 l0_0 l0_1 l0_2 a0_3 t345 (!t350))) else (surmiselaw03_ExprValues.j1 kj2 l0_0 l0_1 l0_2 a0_3 t345 true))) = some r := by rw [if_neg (show ¬ (false = true) by decide)] at H; exact H
    clear H
    have H := H1
    clear H1
    have HC15 := Am H
    clear H
    go_upto_region 5 with (fail)
    repeat (go_quiet (fail); go_upto_region 5 with (fail))
    go_cut [50] (fun v50 wc => ∃ (kq : Nat) (x50_14 : Bool), v50 = .bool x50_14 ∧ Aside0 (surmiselaw03_ExprValues.j1 kq l0_0 l0_1 l0_2 a0_3 t345 x50_14 = some r) ∧ Aside0 (kq ≤ kj2) ∧ Aside0 (wc.heap[gb344]? = some (.cells #[(.slice A0_0 l0_0.length c0_0), (.slice A0_1 l0_1.length c0_1), (.slice A0_2 l0_2.length c0_2), .int .i64 a0_3] 41 (0, 0))) ∧ Aside0 (Below w.heap.size w wc))
    case first =>
     have H := HC15.out
     clear HC15
     replace H := Option.bind_eq_some_iff.mp H
     obtain ⟨t349, A160, H⟩ := H
     replace H : (if t349 = true then ((surmiseref03_Value.f a0_3).bind fun t350 => (surmiselaw03_ExprValues.j1 kj2 l0_0 l0_1 l0_2 a0_3 t345 (!t350))) else (surmiselaw03_ExprValues.j1 kj2 l0_0 l0_1 l0_2 a0_3 t345 true)) = some r := H
     have A16 := Am A160
     clear A160
     by_cases c17 : t349 = true
     ·
      subst c17
      have H1 : ((surmiseref03_Value.f a0_3).bind fun t350 => (surmiselaw03_ExprValues.j1 kj2 l0_0 l0_1 l0_2 a0_3 t345 (!t350))) = some r := by rw [if_pos rfl] at H; exact H
      clear H
      have H := H1
      clear H1
      replace H := Option.bind_eq_some_iff.mp H
      obtain ⟨t350, A180, H⟩ := H
      replace H : (surmiselaw03_ExprValues.j1 kj2 l0_0 l0_1 l0_2 a0_3 t345 (!t350)) = some r := H
      have A18 := Am A180
      clear A180
      have H' := Am H
      clear H
      go_wp2_with (first | (go_at_call 20; (with_reducible refine (surmiseref03_Value.calls t345 true _ A16.out).mono ?_); rintro e w' ⟨rfl, ⟨nd, rfl⟩⟩; (try first | exact ⟨rfl, _, World.drewN_drewN _ _ _⟩ | exact ⟨rfl, _, Eq.trans (World.drewN_drewN _ _ _) (congrArg (World.drewN _) (Nat.add_assoc _ _ _))⟩)) | (go_at_call 20; (with_reducible refine (surmiseref03_Value.calls a0_3 t350 _ A18.out).mono ?_); rintro e w' ⟨rfl, ⟨nd, rfl⟩⟩; (try first | exact ⟨rfl, _, World.drewN_drewN _ _ _⟩ | exact ⟨rfl, _, Eq.trans (World.drewN_drewN _ _ _) (congrArg (World.drewN _) (Nat.add_assoc _ _ _))⟩)))
      repeat (go_quiet (first | (go_at_call 20; (with_reducible refine (surmiseref03_Value.calls t345 true _ A16.out).mono ?_); rintro e w' ⟨rfl, ⟨nd, rfl⟩⟩; (try first | exact ⟨rfl, _, World.drewN_drewN _ _ _⟩ | exact ⟨rfl, _, Eq.trans (World.drewN_drewN _ _ _) (congrArg (World.drewN _) (Nat.add_assoc _ _ _))⟩)) | (go_at_call 20; (with_reducible refine (surmiseref03_Value.calls a0_3 t350 _ A18.out).mono ?_); rintro e w' ⟨rfl, ⟨nd, rfl⟩⟩; (try first | exact ⟨rfl, _, World.drewN_drewN _ _ _⟩ | exact ⟨rfl, _, Eq.trans (World.drewN_drewN _ _ _) (congrArg (World.drewN _) (Nat.add_assoc _ _ _))⟩))); try go_wp2_with (first | (go_at_call 20; (with_reducible refine (surmiseref03_Value.calls t345 true _ A16.out).mono ?_); rintro e w' ⟨rfl, ⟨nd, rfl⟩⟩; (try first | exact ⟨rfl, _, World.drewN_drewN _ _ _⟩ | exact ⟨rfl, _, Eq.trans (World.drewN_drewN _ _ _) (congrArg (World.drewN _) (Nat.add_assoc _ _ _))⟩)) | (go_at_call 20; (with_reducible refine (surmiseref03_Value.calls a0_3 t350 _ A18.out).mono ?_); rintro e w' ⟨rfl, ⟨nd, rfl⟩⟩; (try first | exact ⟨rfl, _, World.drewN_drewN _ _ _⟩ | exact ⟨rfl, _, Eq.trans (World.drewN_drewN _ _ _) (congrArg (World.drewN _) (Nat.add_assoc _ _ _))⟩))))
      go_meet
      case rel => exact ⟨_, (!t350), rq, H', ⟨by have := HJ2.out; first | omega | exact Nat.le_refl _⟩, ⟨kB BK344⟩, ⟨by repeat (first | (with_reducible first | exact HB.out | apply below_alloc | apply pw_below_drewN | apply below_drew1 | refine below_set ?_ GE344.out) | exact HB.out)⟩⟩
     ·
      replace c17 := Bool.eq_false_iff.mpr c17
      subst c17
      have H1 : (surmiselaw03_ExprValues.j1 kj2 l0_0 l0_1 l0_2 a0_3 t345 true) = some r := by rw [if_neg (show ¬ (false = true) by decide)] at H; exact H
      clear H
      have H := H1
      clear H1
      have H' := Am H
      clear H
      go_wp2_with (first | (go_at_call 20; (with_reducible refine (surmiseref03_Value.calls t345 false _ A16.out).mono ?_); rintro e w' ⟨rfl, ⟨nd, rfl⟩⟩; (try first | exact ⟨rfl, _, World.drewN_drewN _ _ _⟩ | exact ⟨rfl, _, Eq.trans (World.drewN_drewN _ _ _) (congrArg (World.drewN _) (Nat.add_assoc _ _ _))⟩)))
      repeat (go_quiet (first | (go_at_call 20; (with_reducible refine (surmiseref03_Value.calls t345 false _ A16.out).mono ?_); rintro e w' ⟨rfl, ⟨nd, rfl⟩⟩; (try first | exact ⟨rfl, _, World.drewN_drewN _ _ _⟩ | exact ⟨rfl, _, Eq.trans (World.drewN_drewN _ _ _) (congrArg (World.drewN _) (Nat.add_assoc _ _ _))⟩))); try go_wp2_with (first | (go_at_call 20; (with_reducible refine (surmiseref03_Value.calls t345 false _ A16.out).mono ?_); rintro e w' ⟨rfl, ⟨nd, rfl⟩⟩; (try first | exact ⟨rfl, _, World.drewN_drewN _ _ _⟩ | exact ⟨rfl, _, Eq.trans (World.drewN_drewN _ _ _) (congrArg (World.drewN _) (Nat.add_assoc _ _ _))⟩))))
      go_meet
      case rel => exact ⟨_, (true), rq, H', ⟨by have := HJ2.out; first | omega | exact Nat.le_refl _⟩, ⟨kB BK344⟩, ⟨by repeat (first | (with_reducible first | exact HB.out | apply below_alloc | apply pw_below_drewN | apply below_drew1 | refine below_set ?_ GE344.out) | exact HB.out)⟩⟩
    case rest =>
     clear HC15
     try clear c1
     try clear p2
     try clear c7
     try clear c8
     try clear c11
     try clear c13
     try clear c17
     try clear hcz5_0
     try clear hcz5_1
     try clear hcz5_2
     try clear hcz5_3
     try clear hfz5_0
     try clear hfz5_1
     try clear hfz5_2
     try clear hfz5_3
     try clear p2
     obtain ⟨kq, x50_14, rfl, HA, HJ14, BK344, HB⟩ := hcut
     cases kq with
     | zero => exact absurd HA.out (by simp [surmiselaw03_ExprValues.j1])
     | succ kj14 =>
      have H := HA.out
      clear HA
      simp only [surmiselaw03_ExprValues.j1] at H
      by_cases c19 : x50_14 = true
      ·
       subst c19
       have H1 : ((surmiseref03_Value.f t345).bind fun t351 => (some t351)) = some r := by rw [if_pos rfl] at H; exact H
       clear H
       have H := H1
       clear H1
       replace H := Option.bind_eq_some_iff.mp H
       obtain ⟨t351, A200, H⟩ := H
       replace H : (some t351) = some r := H
       have A20 := Am A200
       clear A200
       obtain rfl := Option.some.inj H
       go_wp2_with (first | (go_at_call 20; (with_reducible refine (surmiseref03_Value.calls t345 t351 _ A20.out).mono ?_); rintro e w' ⟨rfl, ⟨nd, rfl⟩⟩; (try first | exact ⟨rfl, _, World.drewN_drewN _ _ _⟩ | exact ⟨rfl, _, Eq.trans (World.drewN_drewN _ _ _) (congrArg (World.drewN _) (Nat.add_assoc _ _ _))⟩)))
       repeat (go_quiet (first | (go_at_call 20; (with_reducible refine (surmiseref03_Value.calls t345 t351 _ A20.out).mono ?_); rintro e w' ⟨rfl, ⟨nd, rfl⟩⟩; (try first | exact ⟨rfl, _, World.drewN_drewN _ _ _⟩ | exact ⟨rfl, _, Eq.trans (World.drewN_drewN _ _ _) (congrArg (World.drewN _) (Nat.add_assoc _ _ _))⟩))); try go_wp2_with (first | (go_at_call 20; (with_reducible refine (surmiseref03_Value.calls t345 t351 _ A20.out).mono ?_); rintro e w' ⟨rfl, ⟨nd, rfl⟩⟩; (try first | exact ⟨rfl, _, World.drewN_drewN _ _ _⟩ | exact ⟨rfl, _, Eq.trans (World.drewN_drewN _ _ _) (congrArg (World.drewN _) (Nat.add_assoc _ _ _))⟩))))
       go_ret
       exact ⟨xq, by repeat (first | (with_reducible first | exact HB.out | apply below_alloc | apply pw_below_drewN | apply below_drew1 | refine below_set ?_ GE344.out) | exact HB.out)⟩
      ·
       replace c19 := Bool.eq_false_iff.mpr c19
       subst c19
       have H1 : ((expr_Uses.f kj14 l0_0).bind fun bt352 => ((some (([] : List Int) : List Int)).bind fun y358 => (if y358.length + l0_1.length < 17592186044416 then ((some (([] : List Int) : List Int)).bind fun y364 => (if y364.length + l0_2.length < 17592186044416 then (surmiselaw03_ExprValues.l0 kj14 l0_0 a0_3 t345 bt352.1 bt352.2 (y358 ++ l0_1) (y364 ++ l0_2) 0) else (none))) else (none)))) = some r := by rw [if_neg (show ¬ (false = true) by decide)] at H; exact H
       clear H
       have H := H1
       clear H1
       replace H := Option.bind_eq_some_iff.mp H
       obtain ⟨⟨t352, t353⟩, A210, H⟩ := H
       replace H : ((some (([] : List Int) : List Int)).bind fun y358 => (if y358.length + l0_1.length < 17592186044416 then ((some (([] : List Int) : List Int)).bind fun y364 => (if y364.length + l0_2.length < 17592186044416 then (surmiselaw03_ExprValues.l0 kj14 l0_0 a0_3 t345 t352 t353 (y358 ++ l0_1) (y364 ++ l0_2) 0) else (none))) else (none))) = some r := H
       have A21 := Am A210
       clear A210
       obtain ⟨y358, hy358⟩ : ∃ y_ : List Int, y_ = (([] : List Int)) := ⟨_, rfl⟩
       replace H : (if y358.length + l0_1.length < 17592186044416 then ((some (([] : List Int) : List Int)).bind fun y364 => (if y364.length + l0_2.length < 17592186044416 then (surmiselaw03_ExprValues.l0 kj14 l0_0 a0_3 t345 t352 t353 (y358 ++ l0_1) (y364 ++ l0_2) 0) else (none))) else (none)) = some r := by first | (rw [hy358]; with_reducible exact H) | (have H2_ := (Option.bind_some _ _).symm.trans H; rw [hy358]; with_reducible exact H2_) | (have H2_ := (Option.bind_some _ _).symm.trans H; with_reducible exact H2_) | with_reducible exact H | (rw [hy358]; exact H) | exact H
       have Ny358 := Am hy358
       clear hy358
       by_cases c22 : y358.length + l0_1.length < 17592186044416
       ·
        rw [if_pos c22] at H
        have LMc22 := Am c22
        clear c22
        obtain ⟨y361, hy361⟩ : ∃ y_ : List Int, y_ = (y358 ++ l0_1) := ⟨_, rfl⟩
        replace H : ((some (([] : List Int) : List Int)).bind fun y364 => (if y364.length + l0_2.length < 17592186044416 then (surmiselaw03_ExprValues.l0 kj14 l0_0 a0_3 t345 t352 t353 y361 (y364 ++ l0_2) 0) else (none))) = some r := by first | (rw [hy361]; with_reducible exact H) | (have H2_ := (Option.bind_some _ _).symm.trans H; rw [hy361]; with_reducible exact H2_) | (have H2_ := (Option.bind_some _ _).symm.trans H; with_reducible exact H2_) | with_reducible exact H | (rw [hy361]; exact H) | exact H
        have Ny361 := Am hy361
        clear hy361
        obtain ⟨y364, hy364⟩ : ∃ y_ : List Int, y_ = (([] : List Int)) := ⟨_, rfl⟩
        replace H : (if y364.length + l0_2.length < 17592186044416 then (surmiselaw03_ExprValues.l0 kj14 l0_0 a0_3 t345 t352 t353 y361 (y364 ++ l0_2) 0) else (none)) = some r := by first | (rw [hy364]; with_reducible exact H) | (have H2_ := (Option.bind_some _ _).symm.trans H; rw [hy364]; with_reducible exact H2_) | (have H2_ := (Option.bind_some _ _).symm.trans H; with_reducible exact H2_) | with_reducible exact H | (rw [hy364]; exact H) | exact H
        have Ny364 := Am hy364
        clear hy364
        by_cases c23 : y364.length + l0_2.length < 17592186044416
        ·
         rw [if_pos c23] at H
         have LMc23 := Am c23
         clear c23
         obtain ⟨y367, hy367⟩ : ∃ y_ : List Int, y_ = (y364 ++ l0_2) := ⟨_, rfl⟩
         replace H : (surmiselaw03_ExprValues.l0 kj14 l0_0 a0_3 t345 t352 t353 y361 y367 0) = some r := by first | (rw [hy367]; with_reducible exact H) | (have H2_ := (Option.bind_some _ _).symm.trans H; rw [hy367]; with_reducible exact H2_) | (have H2_ := (Option.bind_some _ _).symm.trans H; with_reducible exact H2_) | with_reducible exact H | (rw [hy367]; exact H) | exact H
         have Ny367 := Am hy367
         clear hy367
         have H' := Am H
         clear H
         go_wp2_with (first | (go_at_call 15; (with_reducible refine (expr_Uses.calls kj14 _ _ l0_0 t352 t353 _ ?side1 ?side2 A21.out).mono ?_); (case side1 => repeat (first | exact (Kd.C_below HR0_0.out HB.out) | (with_reducible refine Kd.C_alloc ?_ _) | (with_reducible refine Kd.C_drewN ?_ _) | (with_reducible refine Kd.C_drew ?_))); (case side2 => exact HC0_0.out); rintro e w24 ⟨v354, v356, rfl, ho0, ho1, hb⟩; have n0_ := Am (Kd.R_lower ho0 (below_size (by repeat (first | (with_reducible first | exact HB.out | apply below_alloc | apply pw_below_drewN | apply below_drew1 | refine below_set ?_ GE344.out) | exact HB.out)))); have n1_ := Am (Kd.R_lower ho1 (below_size (by repeat (first | (with_reducible first | exact HB.out | apply below_alloc | apply pw_below_drewN | apply below_drew1 | refine below_set ?_ GE344.out) | exact HB.out)))); have n2_ := Am (blk_below (g := gb344) (o := .cells #[.slice A0_0 l0_0.length c0_0, .slice A0_1 l0_1.length c0_1, .slice A0_2 l0_2.length c0_2, .int .i64 a0_3] 41 (0, 0)) (kB BK344) hb); have n3_ := Am (below_step (by repeat (first | (with_reducible first | exact HB.out | apply below_alloc | apply pw_below_drewN | apply below_drew1 | refine below_set ?_ GE344.out) | exact HB.out)) hb); clear BK344; clear HB; have HO355 := n0_; have HO357 := n1_; have BK344 := n2_; have HB := n3_; clear n0_ n1_ n2_ n3_; (try clear hb); (try clear hb2); (try clear hk); (try clear hi); (try clear ho0); (try clear ho1)) | ((with_reducible refine gate_dst (N := 58) rfl ?_); (try (refine gate_guard (by rfl) ?_; dsimp only)); refine Kd.R_lit (Kd.int .i64) _ 3 ?hg (N := 58) ?hd (xs := ([] : List Int)) (inner := []) (ok := fun _ => True) (okp := fun _ => True) ?hr ?hp (fun _ hk => hk) trivial (Below.refl _ _) (Nat.le_refl _) (by simp) ?_; (case hd => rfl); (case hg => rfl); (case hr => first | (go_simp; done) | (go_simp; rfl)); (case hp => exact (Reps.none _ _)); intro v359 w25 ho26 hb hg_ hnew_; clear hg_ hnew_; (first | rw [← Ny358.out] at ho26 | (simp only [Int.reduceToNat] at ho26; rw [← Ny358.out] at ho26)); have n0_ := Am (Kd.R_below (kR HO355) hb); have n1_ := Am (Kd.R_below (kR HO357) hb); have n2_ := Am (Kd.R_lower ho26 (below_size (by repeat (first | (with_reducible first | exact HB.out | apply below_alloc | apply pw_below_drewN | apply below_drew1 | refine below_set ?_ GE344.out) | exact HB.out)))); have n3_ := Am (blk_below (g := gb344) (o := .cells #[.slice A0_0 l0_0.length c0_0, .slice A0_1 l0_1.length c0_1, .slice A0_2 l0_2.length c0_2, .int .i64 a0_3] 41 (0, 0)) (kB BK344) hb); have n4_ := Am (below_step (by repeat (first | (with_reducible first | exact HB.out | apply below_alloc | apply pw_below_drewN | apply below_drew1 | refine below_set ?_ GE344.out) | exact HB.out)) hb); clear HO355; clear HO357; clear BK344; clear HB; have HO355 := n0_; have HO357 := n1_; have HO360 := n2_; have BK344 := n3_; have HB := n4_; clear n0_ n1_ n2_ n3_ n4_; clear hb ho26) | ((with_reducible refine gate_builtin (b := .append) (xs := #[.tmp 58, .tmp 59]) rfl ?_); (try (refine gate_guard (by rfl) ?_; dsimp only)); at_builtin; refine Kd.R_append_rows (Kd.int .i64) (w0 := w) w.heap.size rfl (.tmp 58) (.tmp 59) 28 3 (.int .i64 0) 8 rfl Try.underlying28 info3 rfl (by decide) (by omega) v359 y358 l0_1 _ _ _ (fun _ => True) (fun _ => False) rfl rfl ?aO ?aR (fun _ _ h => h) (fun _ h => h.elim) ?aF ?aB ?aS ?aL ?_; (case aR => repeat (first | exact (Kd.C_below HR0_1.out HB.out) | (with_reducible refine Kd.C_alloc ?_ _) | (with_reducible refine Kd.C_drewN ?_ _) | (with_reducible refine Kd.C_drew ?_))); (case aB => exact (by repeat (first | (with_reducible first | exact HB.out | apply below_alloc | apply pw_below_drewN | apply below_drew1 | refine below_set ?_ GE344.out) | exact HB.out))); (case aF => exact (fun _ _ => trivial)); (case aO => exact (kR HO360)); (case aS => exact (below_size (by repeat (first | (with_reducible first | exact HB.out | apply below_alloc | apply pw_below_drewN | apply below_drew1 | refine below_set ?_ GE344.out) | exact HB.out)))); (case aL => have := LMc22.out; omega); intro v362 w27 ho hb hg hat; rw [← Ny361.out] at ho; have n0_ := Am (blk_grown (g := gb344) (o := .cells #[.slice A0_0 l0_0.length c0_0, .slice A0_1 l0_1.length c0_1, .slice A0_2 l0_2.length c0_2, .int .i64 a0_3] 41 (0, 0)) (kB BK344) hg (Kd.R_ne HO360.out BK344.out (by decide))); have n1_ := Am (Kd.R_over' (kR HO355) (Kd.R_typed (kR HO360)) (by decide) hg); have n2_ := Am (Kd.R_over' (kR HO357) (Kd.R_typed (kR HO360)) (by decide) hg); have n3_ := Am (hb); have n4_ := Am (ho); clear BK344; clear HO355; clear HO357; clear HB; clear HO360; have BK344 := n0_; have HO355 := n1_; have HO357 := n2_; have HB := n3_; have HO363 := n4_; clear n0_ n1_ n2_ n3_ n4_; clear ho hb hg hat) | ((with_reducible refine gate_dst (N := 61) rfl ?_); (try (refine gate_guard (by rfl) ?_; dsimp only)); refine Kd.R_lit (Kd.int .i64) _ 3 ?hg (N := 61) ?hd (xs := ([] : List Int)) (inner := []) (ok := fun _ => True) (okp := fun _ => True) ?hr ?hp (fun _ hk => hk) trivial (Below.refl _ _) (Nat.le_refl _) (by simp) ?_; (case hd => rfl); (case hg => rfl); (case hr => first | (go_simp; done) | (go_simp; rfl)); (case hp => exact (Reps.none _ _)); intro v365 w28 ho29 hb hg_ hnew_; clear hg_ hnew_; (first | rw [← Ny364.out] at ho29 | (simp only [Int.reduceToNat] at ho29; rw [← Ny364.out] at ho29)); have n0_ := Am (Kd.R_below (kR HO355) hb); have n1_ := Am (Kd.R_below (kR HO357) hb); have n2_ := Am (Kd.R_elder' (kR HO363) (Kd.R_base ho29) hb); have n3_ := Am (Kd.R_lower (Kd.R_new' ho29 (Kd.R_lt (kR HO363))) (below_size (by repeat (first | (with_reducible first | exact HB.out | apply below_alloc | apply pw_below_drewN | apply below_drew1 | refine below_set ?_ GE344.out) | exact HB.out)))); have n4_ := Am (blk_below (g := gb344) (o := .cells #[.slice A0_0 l0_0.length c0_0, .slice A0_1 l0_1.length c0_1, .slice A0_2 l0_2.length c0_2, .int .i64 a0_3] 41 (0, 0)) (kB BK344) hb); have n5_ := Am (below_step (by repeat (first | (with_reducible first | exact HB.out | apply below_alloc | apply pw_below_drewN | apply below_drew1 | refine below_set ?_ GE344.out) | exact HB.out)) hb); clear HO355; clear HO357; clear HO363; clear BK344; clear HB; have HO355 := n0_; have HO357 := n1_; have HO363 := n2_; have HO366 := n3_; have BK344 := n4_; have HB := n5_; clear n0_ n1_ n2_ n3_ n4_ n5_; clear hb ho29) | ((with_reducible refine gate_builtin (b := .append) (xs := #[.tmp 61, .tmp 62]) rfl ?_); (try (refine gate_guard (by rfl) ?_; dsimp only)); at_builtin; refine Kd.R_append_rows (Kd.int .i64) (w0 := w) w.heap.size rfl (.tmp 61) (.tmp 62) 28 3 (.int .i64 0) 8 rfl Try.underlying28 info3 rfl (by decide) (by omega) v365 y364 l0_2 _ _ _ (fun k_ => some k_ ≠ (v362 : Value).ownBlock) (fun _ => False) rfl rfl ?aO ?aR (fun _ _ h => h) (fun _ h => h.elim) ?aF ?aB ?aS ?aL ?_; (case aR => repeat (first | exact (Kd.C_below HR0_2.out HB.out) | (with_reducible refine Kd.C_alloc ?_ _) | (with_reducible refine Kd.C_drewN ?_ _) | (with_reducible refine Kd.C_drew ?_))); (case aB => exact (by repeat (first | (with_reducible first | exact HB.out | apply below_alloc | apply pw_below_drewN | apply below_drew1 | refine below_set ?_ GE344.out) | exact HB.out))); (case aF => exact (fun k_ hk => Kd.fresh' (Kd.R_lt (kR HO363)) k_ hk)); (case aO => exact (by (with_reducible repeat (first | apply Kd.R_alloc | apply Kd.R_drewN | apply Kd.R_drew)); exact Kd.R_mono HO366.out (fun _ hk => hk.2))); (case aS => exact (below_size (by repeat (first | (with_reducible first | exact HB.out | apply below_alloc | apply pw_below_drewN | apply below_drew1 | refine below_set ?_ GE344.out) | exact HB.out)))); (case aL => have := LMc23.out; omega); intro v368 w30 ho hb hg hat; rw [← Ny367.out] at ho; have n0_ := Am (blk_grown (g := gb344) (o := .cells #[.slice A0_0 l0_0.length c0_0, .slice A0_1 l0_1.length c0_1, .slice A0_2 l0_2.length c0_2, .int .i64 a0_3] 41 (0, 0)) (kB BK344) hg (Kd.R_ne HO366.out BK344.out (by decide))); have n1_ := Am (Kd.R_over' (kR HO355) (Kd.R_typed (kR HO366)) (by decide) hg); have n2_ := Am (Kd.R_over' (kR HO357) (Kd.R_typed (kR HO366)) (by decide) hg); have n3_ := Am (Kd.R_after (ok := (fun _ => True)) (kR HO363) hg hat); have n4_ := Am (hb); have n5_ := Am (ho); clear BK344; clear HO355; clear HO357; clear HO363; clear HB; clear HO366; have BK344 := n0_; have HO355 := n1_; have HO357 := n2_; have HO363 := n3_; have HB := n4_; have HO369 := n5_; clear n0_ n1_ n2_ n3_ n4_ n5_; clear ho hb hg hat))
         repeat (go_quiet (first | (go_at_call 15; (with_reducible refine (expr_Uses.calls kj14 _ _ l0_0 t352 t353 _ ?side1 ?side2 A21.out).mono ?_); (case side1 => repeat (first | exact (Kd.C_below HR0_0.out HB.out) | (with_reducible refine Kd.C_alloc ?_ _) | (with_reducible refine Kd.C_drewN ?_ _) | (with_reducible refine Kd.C_drew ?_))); (case side2 => exact HC0_0.out); rintro e w24 ⟨v354, v356, rfl, ho0, ho1, hb⟩; have n0_ := Am (Kd.R_lower ho0 (below_size (by repeat (first | (with_reducible first | exact HB.out | apply below_alloc | apply pw_below_drewN | apply below_drew1 | refine below_set ?_ GE344.out) | exact HB.out)))); have n1_ := Am (Kd.R_lower ho1 (below_size (by repeat (first | (with_reducible first | exact HB.out | apply below_alloc | apply pw_below_drewN | apply below_drew1 | refine below_set ?_ GE344.out) | exact HB.out)))); have n2_ := Am (blk_below (g := gb344) (o := .cells #[.slice A0_0 l0_0.length c0_0, .slice A0_1 l0_1.length c0_1, .slice A0_2 l0_2.length c0_2, .int .i64 a0_3] 41 (0, 0)) (kB BK344) hb); have n3_ := Am (below_step (by repeat (first | (with_reducible first | exact HB.out | apply below_alloc | apply pw_below_drewN | apply below_drew1 | refine below_set ?_ GE344.out) | exact HB.out)) hb); clear BK344; clear HB; have HO355 := n0_; have HO357 := n1_; have BK344 := n2_; have HB := n3_; clear n0_ n1_ n2_ n3_; (try clear hb); (try clear hb2); (try clear hk); (try clear hi); (try clear ho0); (try clear ho1)) | ((with_reducible refine gate_dst (N := 58) rfl ?_); (try (refine gate_guard (by rfl) ?_; dsimp only)); refine Kd.R_lit (Kd.int .i64) _ 3 ?hg (N := 58) ?hd (xs := ([] : List Int)) (inner := []) (ok := fun _ => True) (okp := fun _ => True) ?hr ?hp (fun _ hk => hk) trivial (Below.refl _ _) (Nat.le_refl _) (by simp) ?_; (case hd => rfl); (case hg => rfl); (case hr => first | (go_simp; done) | (go_simp; rfl)); (case hp => exact (Reps.none _ _)); intro v359 w25 ho26 hb hg_ hnew_; clear hg_ hnew_; (first | rw [← Ny358.out] at ho26 | (simp only [Int.reduceToNat] at ho26; rw [← Ny358.out] at ho26)); have n0_ := Am (Kd.R_below (kR HO355) hb); have n1_ := Am (Kd.R_below (kR HO357) hb); have n2_ := Am (Kd.R_lower ho26 (below_size (by repeat (first | (with_reducible first | exact HB.out | apply below_alloc | apply pw_below_drewN | apply below_drew1 | refine below_set ?_ GE344.out) | exact HB.out)))); have n3_ := Am (blk_below (g := gb344) (o := .cells #[.slice A0_0 l0_0.length c0_0, .slice A0_1 l0_1.length c0_1, .slice A0_2 l0_2.length c0_2, .int .i64 a0_3] 41 (0, 0)) (kB BK344) hb); have n4_ := Am (below_step (by repeat (first | (with_reducible first | exact HB.out | apply below_alloc | apply pw_below_drewN | apply below_drew1 | refine below_set ?_ GE344.out) | exact HB.out)) hb); clear HO355; clear HO357; clear BK344; clear HB; have HO355 := n0_; have HO357 := n1_; have HO360 := n2_; have BK344 := n3_; have HB := n4_; clear n0_ n1_ n2_ n3_ n4_; clear hb ho26) | ((with_reducible refine gate_builtin (b := .append) (xs := #[.tmp 58, .tmp 59]) rfl ?_); (try (refine gate_guard (by rfl) ?_; dsimp only)); at_builtin; refine Kd.R_append_rows (Kd.int .i64) (w0 := w) w.heap.size rfl (.tmp 58) (.tmp 59) 28 3 (.int .i64 0) 8 rfl Try.underlying28 info3 rfl (by decide) (by omega) v359 y358 l0_1 _ _ _ (fun _ => True) (fun _ => False) rfl rfl ?aO ?aR (fun _ _ h => h) (fun _ h => h.elim) ?aF ?aB ?aS ?aL ?_; (case aR => repeat (first | exact (Kd.C_below HR0_1.out HB.out) | (with_reducible refine Kd.C_alloc ?_ _) | (with_reducible refine Kd.C_drewN ?_ _) | (with_reducible refine Kd.C_drew ?_))); (case aB => exact (by repeat (first | (with_reducible first | exact HB.out | apply below_alloc | apply pw_below_drewN | apply below_drew1 | refine below_set ?_ GE344.out) | exact HB.out))); (case aF => exact (fun _ _ => trivial)); (case aO => exact (kR HO360)); (case aS => exact (below_size (by repeat (first | (with_reducible first | exact HB.out | apply below_alloc | apply pw_below_drewN | apply below_drew1 | refine below_set ?_ GE344.out) | exact HB.out)))); (case aL => have := LMc22.out; omega); intro v362 w27 ho hb hg hat; rw [← Ny361.out] at ho; have n0_ := Am (blk_grown (g := gb344) (o := .cells #[.slice A0_0 l0_0.length c0_0, .slice A0_1 l0_1.length c0_1, .slice A0_2 l0_2.length c0_2, .int .i64 a0_3] 41 (0, 0)) (kB BK344) hg (Kd.R_ne HO360.out BK344.out (by decide))); have n1_ := Am (Kd.R_over' (kR HO355) (Kd.R_typed (kR HO360)) (by decide) hg); have n2_ := Am (Kd.R_over' (kR HO357) (Kd.R_typed (kR HO360)) (by decide) hg); have n3_ := Am (hb); have n4_ := Am (ho); clear BK344; clear HO355; clear HO357; clear HB; clear HO360; have BK344 := n0_; have HO355 := n1_; have HO357 := n2_; have HB := n3_; have HO363 := n4_; clear n0_ n1_ n2_ n3_ n4_; clear ho hb hg hat) | ((with_reducible refine gate_dst (N := 61) rfl ?_); (try (refine gate_guard (by rfl) ?_; dsimp only)); refine Kd.R_lit (Kd.int .i64) _ 3 ?hg (N := 61) ?hd (xs := ([] : List Int)) (inner := []) (ok := fun _ => True) (okp := fun _ => True) ?hr ?hp (fun _ hk => hk) trivial (Below.refl _ _) (Nat.le_refl _) (by simp) ?_; (case hd => rfl); (case hg => rfl); (case hr => first | (go_simp; done) | (go_simp; rfl)); (case hp => exact (Reps.none _ _)); intro v365 w28 ho29 hb hg_ hnew_; clear hg_ hnew_; (first | rw [← Ny364.out] at ho29 | (simp only [Int.reduceToNat] at ho29; rw [← Ny364.out] at ho29)); have n0_ := Am (Kd.R_below (kR HO355) hb); have n1_ := Am (Kd.R_below (kR HO357) hb); have n2_ := Am (Kd.R_elder' (kR HO363) (Kd.R_base ho29) hb); have n3_ := Am (Kd.R_lower (Kd.R_new' ho29 (Kd.R_lt (kR HO363))) (below_size (by repeat (first | (with_reducible first | exact HB.out | apply below_alloc | apply pw_below_drewN | apply below_drew1 | refine below_set ?_ GE344.out) | exact HB.out)))); have n4_ := Am (blk_below (g := gb344) (o := .cells #[.slice A0_0 l0_0.length c0_0, .slice A0_1 l0_1.length c0_1, .slice A0_2 l0_2.length c0_2, .int .i64 a0_3] 41 (0, 0)) (kB BK344) hb); have n5_ := Am (below_step (by repeat (first | (with_reducible first | exact HB.out | apply below_alloc | apply pw_below_drewN | apply below_drew1 | refine below_set ?_ GE344.out) | exact HB.out)) hb); clear HO355; clear HO357; clear HO363; clear BK344; clear HB; have HO355 := n0_; have HO357 := n1_; have HO363 := n2_; have HO366 := n3_; have BK344 := n4_; have HB := n5_; clear n0_ n1_ n2_ n3_ n4_ n5_; clear hb ho29) | ((with_reducible refine gate_builtin (b := .append) (xs := #[.tmp 61, .tmp 62]) rfl ?_); (try (refine gate_guard (by rfl) ?_; dsimp only)); at_builtin; refine Kd.R_append_rows (Kd.int .i64) (w0 := w) w.heap.size rfl (.tmp 61) (.tmp 62) 28 3 (.int .i64 0) 8 rfl Try.underlying28 info3 rfl (by decide) (by omega) v365 y364 l0_2 _ _ _ (fun k_ => some k_ ≠ (v362 : Value).ownBlock) (fun _ => False) rfl rfl ?aO ?aR (fun _ _ h => h) (fun _ h => h.elim) ?aF ?aB ?aS ?aL ?_; (case aR => repeat (first | exact (Kd.C_below HR0_2.out HB.out) | (with_reducible refine Kd.C_alloc ?_ _) | (with_reducible refine Kd.C_drewN ?_ _) | (with_reducible refine Kd.C_drew ?_))); (case aB => exact (by repeat (first | (with_reducible first | exact HB.out | apply below_alloc | apply pw_below_drewN | apply below_drew1 | refine below_set ?_ GE344.out) | exact HB.out))); (case aF => exact (fun k_ hk => Kd.fresh' (Kd.R_lt (kR HO363)) k_ hk)); (case aO => exact (by (with_reducible repeat (first | apply Kd.R_alloc | apply Kd.R_drewN | apply Kd.R_drew)); exact Kd.R_mono HO366.out (fun _ hk => hk.2))); (case aS => exact (below_size (by repeat (first | (with_reducible first | exact HB.out | apply below_alloc | apply pw_below_drewN | apply below_drew1 | refine below_set ?_ GE344.out) | exact HB.out)))); (case aL => have := LMc23.out; omega); intro v368 w30 ho hb hg hat; rw [← Ny367.out] at ho; have n0_ := Am (blk_grown (g := gb344) (o := .cells #[.slice A0_0 l0_0.length c0_0, .slice A0_1 l0_1.length c0_1, .slice A0_2 l0_2.length c0_2, .int .i64 a0_3] 41 (0, 0)) (kB BK344) hg (Kd.R_ne HO366.out BK344.out (by decide))); have n1_ := Am (Kd.R_over' (kR HO355) (Kd.R_typed (kR HO366)) (by decide) hg); have n2_ := Am (Kd.R_over' (kR HO357) (Kd.R_typed (kR HO366)) (by decide) hg); have n3_ := Am (Kd.R_after (ok := (fun _ => True)) (kR HO363) hg hat); have n4_ := Am (hb); have n5_ := Am (ho); clear BK344; clear HO355; clear HO357; clear HO363; clear HB; clear HO366; have BK344 := n0_; have HO355 := n1_; have HO357 := n2_; have HO363 := n3_; have HB := n4_; have HO369 := n5_; clear n0_ n1_ n2_ n3_ n4_ n5_; clear ho hb hg hat)); try go_wp2_with (first | (go_at_call 15; (with_reducible refine (expr_Uses.calls kj14 _ _ l0_0 t352 t353 _ ?side1 ?side2 A21.out).mono ?_); (case side1 => repeat (first | exact (Kd.C_below HR0_0.out HB.out) | (with_reducible refine Kd.C_alloc ?_ _) | (with_reducible refine Kd.C_drewN ?_ _) | (with_reducible refine Kd.C_drew ?_))); (case side2 => exact HC0_0.out); rintro e w24 ⟨v354, v356, rfl, ho0, ho1, hb⟩; have n0_ := Am (Kd.R_lower ho0 (below_size (by repeat (first | (with_reducible first | exact HB.out | apply below_alloc | apply pw_below_drewN | apply below_drew1 | refine below_set ?_ GE344.out) | exact HB.out)))); have n1_ := Am (Kd.R_lower ho1 (below_size (by repeat (first | (with_reducible first | exact HB.out | apply below_alloc | apply pw_below_drewN | apply below_drew1 | refine below_set ?_ GE344.out) | exact HB.out)))); have n2_ := Am (blk_below (g := gb344) (o := .cells #[.slice A0_0 l0_0.length c0_0, .slice A0_1 l0_1.length c0_1, .slice A0_2 l0_2.length c0_2, .int .i64 a0_3] 41 (0, 0)) (kB BK344) hb); have n3_ := Am (below_step (by repeat (first | (with_reducible first | exact HB.out | apply below_alloc | apply pw_below_drewN | apply below_drew1 | refine below_set ?_ GE344.out) | exact HB.out)) hb); clear BK344; clear HB; have HO355 := n0_; have HO357 := n1_; have BK344 := n2_; have HB := n3_; clear n0_ n1_ n2_ n3_; (try clear hb); (try clear hb2); (try clear hk); (try clear hi); (try clear ho0); (try clear ho1)) | ((with_reducible refine gate_dst (N := 58) rfl ?_); (try (refine gate_guard (by rfl) ?_; dsimp only)); refine Kd.R_lit (Kd.int .i64) _ 3 ?hg (N := 58) ?hd (xs := ([] : List Int)) (inner := []) (ok := fun _ => True) (okp := fun _ => True) ?hr ?hp (fun _ hk => hk) trivial (Below.refl _ _) (Nat.le_refl _) (by simp) ?_; (case hd => rfl); (case hg => rfl); (case hr => first | (go_simp; done) | (go_simp; rfl)); (case hp => exact (Reps.none _ _)); intro v359 w25 ho26 hb hg_ hnew_; clear hg_ hnew_; (first | rw [← Ny358.out] at ho26 | (simp only [Int.reduceToNat] at ho26; rw [← Ny358.out] at ho26)); have n0_ := Am (Kd.R_below (kR HO355) hb); have n1_ := Am (Kd.R_below (kR HO357) hb); have n2_ := Am (Kd.R_lower ho26 (below_size (by repeat (first | (with_reducible first | exact HB.out | apply below_alloc | apply pw_below_drewN | apply below_drew1 | refine below_set ?_ GE344.out) | exact HB.out)))); have n3_ := Am (blk_below (g := gb344) (o := .cells #[.slice A0_0 l0_0.length c0_0, .slice A0_1 l0_1.length c0_1, .slice A0_2 l0_2.length c0_2, .int .i64 a0_3] 41 (0, 0)) (kB BK344) hb); have n4_ := Am (below_step (by repeat (first | (with_reducible first | exact HB.out | apply below_alloc | apply pw_below_drewN | apply below_drew1 | refine below_set ?_ GE344.out) | exact HB.out)) hb); clear HO355; clear HO357; clear BK344; clear HB; have HO355 := n0_; have HO357 := n1_; have HO360 := n2_; have BK344 := n3_; have HB := n4_; clear n0_ n1_ n2_ n3_ n4_; clear hb ho26) | ((with_reducible refine gate_builtin (b := .append) (xs := #[.tmp 58, .tmp 59]) rfl ?_); (try (refine gate_guard (by rfl) ?_; dsimp only)); at_builtin; refine Kd.R_append_rows (Kd.int .i64) (w0 := w) w.heap.size rfl (.tmp 58) (.tmp 59) 28 3 (.int .i64 0) 8 rfl Try.underlying28 info3 rfl (by decide) (by omega) v359 y358 l0_1 _ _ _ (fun _ => True) (fun _ => False) rfl rfl ?aO ?aR (fun _ _ h => h) (fun _ h => h.elim) ?aF ?aB ?aS ?aL ?_; (case aR => repeat (first | exact (Kd.C_below HR0_1.out HB.out) | (with_reducible refine Kd.C_alloc ?_ _) | (with_reducible refine Kd.C_drewN ?_ _) | (with_reducible refine Kd.C_drew ?_))); (case aB => exact (by repeat (first | (with_reducible first | exact HB.out | apply below_alloc | apply pw_below_drewN | apply below_drew1 | refine below_set ?_ GE344.out) | exact HB.out))); (case aF => exact (fun _ _ => trivial)); (case aO => exact (kR HO360)); (case aS => exact (below_size (by repeat (first | (with_reducible first | exact HB.out | apply below_alloc | apply pw_below_drewN | apply below_drew1 | refine below_set ?_ GE344.out) | exact HB.out)))); (case aL => have := LMc22.out; omega); intro v362 w27 ho hb hg hat; rw [← Ny361.out] at ho; have n0_ := Am (blk_grown (g := gb344) (o := .cells #[.slice A0_0 l0_0.length c0_0, .slice A0_1 l0_1.length c0_1, .slice A0_2 l0_2.length c0_2, .int .i64 a0_3] 41 (0, 0)) (kB BK344) hg (Kd.R_ne HO360.out BK344.out (by decide))); have n1_ := Am (Kd.R_over' (kR HO355) (Kd.R_typed (kR HO360)) (by decide) hg); have n2_ := Am (Kd.R_over' (kR HO357) (Kd.R_typed (kR HO360)) (by decide) hg); have n3_ := Am (hb); have n4_ := Am (ho); clear BK344; clear HO355; clear HO357; clear HB; clear HO360; have BK344 := n0_; have HO355 := n1_; have HO357 := n2_; have HB := n3_; have HO363 := n4_; clear n0_ n1_ n2_ n3_ n4_; clear ho hb hg hat) | ((with_reducible refine gate_dst (N := 61) rfl ?_); (try (refine gate_guard (by rfl) ?_; dsimp only)); refine Kd.R_lit (Kd.int .i64) _ 3 ?hg (N := 61) ?hd (xs := ([] : List Int)) (inner := []) (ok := fun _ => True) (okp := fun _ => True) ?hr ?hp (fun _ hk => hk) trivial (Below.refl _ _) (Nat.le_refl _) (by simp) ?_; (case hd => rfl); (case hg => rfl); (case hr => first | (go_simp; done) | (go_simp; rfl)); (case hp => exact (Reps.none _ _)); intro v365 w28 ho29 hb hg_ hnew_; clear hg_ hnew_; (first | rw [← Ny364.out] at ho29 | (simp only [Int.reduceToNat] at ho29; rw [← Ny364.out] at ho29)); have n0_ := Am (Kd.R_below (kR HO355) hb); have n1_ := Am (Kd.R_below (kR HO357) hb); have n2_ := Am (Kd.R_elder' (kR HO363) (Kd.R_base ho29) hb); have n3_ := Am (Kd.R_lower (Kd.R_new' ho29 (Kd.R_lt (kR HO363))) (below_size (by repeat (first | (with_reducible first | exact HB.out | apply below_alloc | apply pw_below_drewN | apply below_drew1 | refine below_set ?_ GE344.out) | exact HB.out)))); have n4_ := Am (blk_below (g := gb344) (o := .cells #[.slice A0_0 l0_0.length c0_0, .slice A0_1 l0_1.length c0_1, .slice A0_2 l0_2.length c0_2, .int .i64 a0_3] 41 (0, 0)) (kB BK344) hb); have n5_ := Am (below_step (by repeat (first | (with_reducible first | exact HB.out | apply below_alloc | apply pw_below_drewN | apply below_drew1 | refine below_set ?_ GE344.out) | exact HB.out)) hb); clear HO355; clear HO357; clear HO363; clear BK344; clear HB; have HO355 := n0_; have HO357 := n1_; have HO363 := n2_; have HO366 := n3_; have BK344 := n4_; have HB := n5_; clear n0_ n1_ n2_ n3_ n4_ n5_; clear hb ho29) | ((with_reducible refine gate_builtin (b := .append) (xs := #[.tmp 61, .tmp 62]) rfl ?_); (try (refine gate_guard (by rfl) ?_; dsimp only)); at_builtin; refine Kd.R_append_rows (Kd.int .i64) (w0 := w) w.heap.size rfl (.tmp 61) (.tmp 62) 28 3 (.int .i64 0) 8 rfl Try.underlying28 info3 rfl (by decide) (by omega) v365 y364 l0_2 _ _ _ (fun k_ => some k_ ≠ (v362 : Value).ownBlock) (fun _ => False) rfl rfl ?aO ?aR (fun _ _ h => h) (fun _ h => h.elim) ?aF ?aB ?aS ?aL ?_; (case aR => repeat (first | exact (Kd.C_below HR0_2.out HB.out) | (with_reducible refine Kd.C_alloc ?_ _) | (with_reducible refine Kd.C_drewN ?_ _) | (with_reducible refine Kd.C_drew ?_))); (case aB => exact (by repeat (first | (with_reducible first | exact HB.out | apply below_alloc | apply pw_below_drewN | apply below_drew1 | refine below_set ?_ GE344.out) | exact HB.out))); (case aF => exact (fun k_ hk => Kd.fresh' (Kd.R_lt (kR HO363)) k_ hk)); (case aO => exact (by (with_reducible repeat (first | apply Kd.R_alloc | apply Kd.R_drewN | apply Kd.R_drew)); exact Kd.R_mono HO366.out (fun _ hk => hk.2))); (case aS => exact (below_size (by repeat (first | (with_reducible first | exact HB.out | apply below_alloc | apply pw_below_drewN | apply below_drew1 | refine below_set ?_ GE344.out) | exact HB.out)))); (case aL => have := LMc23.out; omega); intro v368 w30 ho hb hg hat; rw [← Ny367.out] at ho; have n0_ := Am (blk_grown (g := gb344) (o := .cells #[.slice A0_0 l0_0.length c0_0, .slice A0_1 l0_1.length c0_1, .slice A0_2 l0_2.length c0_2, .int .i64 a0_3] 41 (0, 0)) (kB BK344) hg (Kd.R_ne HO366.out BK344.out (by decide))); have n1_ := Am (Kd.R_over' (kR HO355) (Kd.R_typed (kR HO366)) (by decide) hg); have n2_ := Am (Kd.R_over' (kR HO357) (Kd.R_typed (kR HO366)) (by decide) hg); have n3_ := Am (Kd.R_after (ok := (fun _ => True)) (kR HO363) hg hat); have n4_ := Am (hb); have n5_ := Am (ho); clear BK344; clear HO355; clear HO357; clear HO363; clear HB; clear HO366; have BK344 := n0_; have HO355 := n1_; have HO357 := n2_; have HO363 := n3_; have HB := n4_; have HO369 := n5_; clear n0_ n1_ n2_ n3_ n4_ n5_; clear ho hb hg hat)))
         go_loopg [13] kj14 (fun kq v13 w' => ∃ (x11_3 : List Int) (x13_3 : Int), v13 = .int .i64 x13_3 ∧ Aside0 (surmiselaw03_ExprValues.l0 kq l0_0 a0_3 t345 t352 t353 x11_3 y367 x13_3 = some r) ∧ Aside0 (kq ≤ kj14) ∧ Aside0 (Kd.R Kd.bool 4 w' w.heap.size (fun k_ => some k_ ≠ (v356 : Value).ownBlock) v354 t352) ∧ Aside0 (Kd.R Kd.bool 4 w' w.heap.size (fun k_ => some k_ ≠ (v354 : Value).ownBlock) v356 t353) ∧ Aside0 (Kd.R (Kd.int .i64) 3 w' w.heap.size (fun k_ => some k_ ≠ (v368 : Value).ownBlock) v362 x11_3) ∧ Aside0 (Kd.R (Kd.int .i64) 3 w' w.heap.size (fun k_ => some k_ ≠ (v362 : Value).ownBlock) v368 y367) ∧ Aside0 (w'.heap[gb344]? = some (.cells #[(.slice A0_0 l0_0.length c0_0), (.slice A0_1 l0_1.length c0_1), (.slice A0_2 l0_2.length c0_2), .int .i64 a0_3] 41 (0, 0))) ∧ Aside0 (Below w.heap.size w w'))
         case atStart => exact ⟨(y361), (0), rq, H', ⟨Nat.le_refl _⟩, ⟨kR HO355⟩, ⟨kR HO357⟩, ⟨by (with_reducible repeat (first | apply Kd.R_alloc | apply Kd.R_drewN | apply Kd.R_drew)); exact Kd.R_mono HO363.out (fun _ hk => hk.2)⟩, ⟨kR HO369⟩, ⟨kB BK344⟩, ⟨by repeat (first | (with_reducible first | exact HB.out | apply below_alloc | apply pw_below_drewN | apply below_drew1 | refine below_set ?_ GE344.out) | exact HB.out)⟩⟩
         case round =>
          clear H'
          try clear c1
          try clear c2
          try clear p2
          try clear c7
          try clear c8
          try clear c11
          try clear c13
          try clear c17
          try clear c19
          try clear c22
          try clear c23
          try clear hcz5_0
          try clear hcz5_1
          try clear hcz5_2
          try clear hcz5_3
          try clear hfz5_0
          try clear hfz5_1
          try clear hfz5_2
          try clear hfz5_3
          try clear p2
          obtain ⟨x11_3, x13_3, rfl, HA, HK3, HO_9, HO_10, HO_11, HO_12, BK344, HB⟩ := hrel
          cases gk with
          | zero => exact absurd HA.out (by simp [surmiselaw03_ExprValues.l0])
          | succ k3 =>
           have H := HA.out
           clear HA
           simp only [surmiselaw03_ExprValues.l0] at H
           by_cases c31 : x13_3 < (x11_3.length : Int)
           ·
            rw [if_pos c31] at H
            have c31b0 : decide (x13_3 < (x11_3.length : Int)) = true := decide_eq_true c31
            clear c31
            by_cases c32 : x13_3 < 6
            ·
             rw [if_pos c32] at H
             have c32b0 : decide (x13_3 < 6) = true := decide_eq_true c32
             clear c32
             by_cases c33 : x13_3 ≥ (t352.length : Int)
             ·
              rw [if_pos c33] at H
              have c33b0 : decide ((t352.length : Int) ≤ x13_3) = true := decide_eq_true c33
              clear c33
              by_cases c34 : 0 ≤ x13_3
              ·
               rw [if_pos c34] at H
               have c34b0 : decide (0 ≤ x13_3) = true := decide_eq_true c34
               clear c34
               obtain ⟨y370, hy370⟩ : ∃ y_ : List Int, y_ = (x11_3.set (x13_3 : Int).toNat a0_3) := ⟨_, rfl⟩
               replace H : (surmiselaw03_ExprValues.l0 k3 l0_0 a0_3 t345 t352 t353 y370 y367 (wrap64 (x13_3 + 1))) = some r := by first | (rw [hy370]; with_reducible exact H) | (have H2_ := (Option.bind_some _ _).symm.trans H; rw [hy370]; with_reducible exact H2_) | (have H2_ := (Option.bind_some _ _).symm.trans H; with_reducible exact H2_) | with_reducible exact H | (rw [hy370]; exact H) | exact H
               have Ny370 := Am hy370
               clear hy370
               have H' := Am H
               clear H
               obtain ⟨Ao36, co36, eo36⟩ := Kd.R_slice HO_11.out
               subst eo36
               obtain ⟨Ao37, co37, eo37⟩ := Kd.R_slice HO_9.out
               subst eo37
               have p35 : 0 ≤ (x13_3 : Int) := of_decide_eq_true az
               have q35 : (x13_3 : Int) < ((x11_3.length : Int) : Int) := of_decide_eq_true az
               obtain ⟨go35, co35, eo35, gb35, gl35, cl35, HG35⟩ := Kd.R_form HO_11.out (by omega)
               (first | cases eo35 | (injection eo35 with ea_ en_ ec_; (first | subst ea_ | (injection ea_ with ea_; subst ea_)); subst ec_; clear en_))
               have GB35 := Am gb35
               have GG35 := Am HG35
               clear gb35 gl35 HG35
               obtain ⟨hx35_0, hf35_0⟩ := Kd.R_celln 0 HO_11.out (x13_3 : Int) p35 q35
               replace p35 := eq_true p35
               replace q35 := eq_true q35
               have HP38 := Kd.R_putg HO_11.out (x13_3 : Int) a0_3
               go_wp2_with (first | ((with_reducible refine gate_store (t := 3) (p := 88) rfl ?_); (try (rw [drewN_self wr]; generalize hq_ : World.drewN wr _ = wr; have n0_ := Am (Kd.R_at hq_ HO_9.out); have n1_ := Am (Kd.R_at hq_ HO_10.out); have n2_ := Am (Kd.R_at hq_ HO_11.out); have n3_ := Am (Kd.R_at hq_ HO_12.out); have n4_ := Am (blk_at hq_ BK344.out); have n5_ := Am (below_at hq_ HB.out); clear hq_ HO_9 HO_10 HO_11 HO_12 BK344 HB; have HO_9 := n0_; have HO_10 := n1_; have HO_11 := n2_; have HO_12 := n3_; have BK344 := n4_; have HB := n5_; clear n0_ n1_ n2_ n3_ n4_ n5_; (try (have HP38 := Kd.R_putg HO_11.out (x13_3 : Int) a0_3)))); refine store_event (t := 3) (p := 88) (v := ?vo_w39) (w1 := (wr.setCell ⟨go35, (x13_3 : Int).toNat, none⟩ (.int .i64 a0_3))) ?hg ?ho ?hn ?hr ?_; (case ho => rfl); (case hg => rfl); (case hn => rfl); (case hr => first | (go_simp; done) | (go_simp; rfl)); intro w39 hw; have hg : wr.grownBy w39 (some go35) := (by rw [hw]; exact HP38.2); have hp_ : Kd.R (Kd.int .i64) 3 w39 w.heap.size (fun k_ => some k_ ≠ (v368 : Value).ownBlock) (.slice (some ⟨go35, 0, none⟩) x11_3.length co36) y370 := (by rw [hw, Ny370.out]; exact HP38.1); clear HP38; have n0_ := Am (Kd.R_over' (v := (.slice (some ⟨go35, 0, none⟩) x11_3.length co36)) (kR HO_9) (Kd.R_typed HO_11.out) (by decide) hg); have n1_ := Am (Kd.R_over' (v := (.slice (some ⟨go35, 0, none⟩) x11_3.length co36)) (kR HO_10) (Kd.R_typed HO_11.out) (by decide) hg); have n2_ := Am (hp_); have n3_ := Am (Kd.R_after (v := (.slice (some ⟨go35, 0, none⟩) x11_3.length co36)) (v1 := (.slice (some ⟨go35, 0, none⟩) x11_3.length co36)) (ok := (fun _ => True)) (by (with_reducible repeat (first | apply Kd.R_alloc | apply Kd.R_drewN | apply Kd.R_drew)); exact Kd.R_mono HO_12.out (fun _ hk => ⟨trivial, hk⟩)) hg (.inl rfl)); have n4_ := Am (blk_grown (g := gb344) (o := .cells #[.slice A0_0 l0_0.length c0_0, .slice A0_1 l0_1.length c0_1, .slice A0_2 l0_2.length c0_2, .int .i64 a0_3] 41 (0, 0)) (kB BK344) hg (Kd.R_ne HO_11.out BK344.out (by decide))); have n5_ := Am ((by rw [hw]; exact below_set (HB.out) GB35.out : Below w.heap.size w w39)); clear HO_9; clear HO_10; clear HO_11; clear HO_12; clear BK344; clear HB; have HO_9 := n0_; have HO_10 := n1_; have HO_11 := n2_; have HO_12 := n3_; have BK344 := n4_; have HB := n5_; clear n0_ n1_ n2_ n3_ n4_ n5_; clear hg hw hp_))
               repeat (go_quiet (first | ((with_reducible refine gate_store (t := 3) (p := 88) rfl ?_); (try (rw [drewN_self wr]; generalize hq_ : World.drewN wr _ = wr; have n0_ := Am (Kd.R_at hq_ HO_9.out); have n1_ := Am (Kd.R_at hq_ HO_10.out); have n2_ := Am (Kd.R_at hq_ HO_11.out); have n3_ := Am (Kd.R_at hq_ HO_12.out); have n4_ := Am (blk_at hq_ BK344.out); have n5_ := Am (below_at hq_ HB.out); clear hq_ HO_9 HO_10 HO_11 HO_12 BK344 HB; have HO_9 := n0_; have HO_10 := n1_; have HO_11 := n2_; have HO_12 := n3_; have BK344 := n4_; have HB := n5_; clear n0_ n1_ n2_ n3_ n4_ n5_; (try (have HP38 := Kd.R_putg HO_11.out (x13_3 : Int) a0_3)))); refine store_event (t := 3) (p := 88) (v := ?vo_w39) (w1 := (wr.setCell ⟨go35, (x13_3 : Int).toNat, none⟩ (.int .i64 a0_3))) ?hg ?ho ?hn ?hr ?_; (case ho => rfl); (case hg => rfl); (case hn => rfl); (case hr => first | (go_simp; done) | (go_simp; rfl)); intro w39 hw; have hg : wr.grownBy w39 (some go35) := (by rw [hw]; exact HP38.2); have hp_ : Kd.R (Kd.int .i64) 3 w39 w.heap.size (fun k_ => some k_ ≠ (v368 : Value).ownBlock) (.slice (some ⟨go35, 0, none⟩) x11_3.length co36) y370 := (by rw [hw, Ny370.out]; exact HP38.1); clear HP38; have n0_ := Am (Kd.R_over' (v := (.slice (some ⟨go35, 0, none⟩) x11_3.length co36)) (kR HO_9) (Kd.R_typed HO_11.out) (by decide) hg); have n1_ := Am (Kd.R_over' (v := (.slice (some ⟨go35, 0, none⟩) x11_3.length co36)) (kR HO_10) (Kd.R_typed HO_11.out) (by decide) hg); have n2_ := Am (hp_); have n3_ := Am (Kd.R_after (v := (.slice (some ⟨go35, 0, none⟩) x11_3.length co36)) (v1 := (.slice (some ⟨go35, 0, none⟩) x11_3.length co36)) (ok := (fun _ => True)) (by (with_reducible repeat (first | apply Kd.R_alloc | apply Kd.R_drewN | apply Kd.R_drew)); exact Kd.R_mono HO_12.out (fun _ hk => ⟨trivial, hk⟩)) hg (.inl rfl)); have n4_ := Am (blk_grown (g := gb344) (o := .cells #[.slice A0_0 l0_0.length c0_0, .slice A0_1 l0_1.length c0_1, .slice A0_2 l0_2.length c0_2, .int .i64 a0_3] 41 (0, 0)) (kB BK344) hg (Kd.R_ne HO_11.out BK344.out (by decide))); have n5_ := Am ((by rw [hw]; exact below_set (HB.out) GB35.out : Below w.heap.size w w39)); clear HO_9; clear HO_10; clear HO_11; clear HO_12; clear BK344; clear HB; have HO_9 := n0_; have HO_10 := n1_; have HO_11 := n2_; have HO_12 := n3_; have BK344 := n4_; have HB := n5_; clear n0_ n1_ n2_ n3_ n4_ n5_; clear hg hw hp_)); try go_wp2_with (first | ((with_reducible refine gate_store (t := 3) (p := 88) rfl ?_); (try (rw [drewN_self wr]; generalize hq_ : World.drewN wr _ = wr; have n0_ := Am (Kd.R_at hq_ HO_9.out); have n1_ := Am (Kd.R_at hq_ HO_10.out); have n2_ := Am (Kd.R_at hq_ HO_11.out); have n3_ := Am (Kd.R_at hq_ HO_12.out); have n4_ := Am (blk_at hq_ BK344.out); have n5_ := Am (below_at hq_ HB.out); clear hq_ HO_9 HO_10 HO_11 HO_12 BK344 HB; have HO_9 := n0_; have HO_10 := n1_; have HO_11 := n2_; have HO_12 := n3_; have BK344 := n4_; have HB := n5_; clear n0_ n1_ n2_ n3_ n4_ n5_; (try (have HP38 := Kd.R_putg HO_11.out (x13_3 : Int) a0_3)))); refine store_event (t := 3) (p := 88) (v := ?vo_w39) (w1 := (wr.setCell ⟨go35, (x13_3 : Int).toNat, none⟩ (.int .i64 a0_3))) ?hg ?ho ?hn ?hr ?_; (case ho => rfl); (case hg => rfl); (case hn => rfl); (case hr => first | (go_simp; done) | (go_simp; rfl)); intro w39 hw; have hg : wr.grownBy w39 (some go35) := (by rw [hw]; exact HP38.2); have hp_ : Kd.R (Kd.int .i64) 3 w39 w.heap.size (fun k_ => some k_ ≠ (v368 : Value).ownBlock) (.slice (some ⟨go35, 0, none⟩) x11_3.length co36) y370 := (by rw [hw, Ny370.out]; exact HP38.1); clear HP38; have n0_ := Am (Kd.R_over' (v := (.slice (some ⟨go35, 0, none⟩) x11_3.length co36)) (kR HO_9) (Kd.R_typed HO_11.out) (by decide) hg); have n1_ := Am (Kd.R_over' (v := (.slice (some ⟨go35, 0, none⟩) x11_3.length co36)) (kR HO_10) (Kd.R_typed HO_11.out) (by decide) hg); have n2_ := Am (hp_); have n3_ := Am (Kd.R_after (v := (.slice (some ⟨go35, 0, none⟩) x11_3.length co36)) (v1 := (.slice (some ⟨go35, 0, none⟩) x11_3.length co36)) (ok := (fun _ => True)) (by (with_reducible repeat (first | apply Kd.R_alloc | apply Kd.R_drewN | apply Kd.R_drew)); exact Kd.R_mono HO_12.out (fun _ hk => ⟨trivial, hk⟩)) hg (.inl rfl)); have n4_ := Am (blk_grown (g := gb344) (o := .cells #[.slice A0_0 l0_0.length c0_0, .slice A0_1 l0_1.length c0_1, .slice A0_2 l0_2.length c0_2, .int .i64 a0_3] 41 (0, 0)) (kB BK344) hg (Kd.R_ne HO_11.out BK344.out (by decide))); have n5_ := Am ((by rw [hw]; exact below_set (HB.out) GB35.out : Below w.heap.size w w39)); clear HO_9; clear HO_10; clear HO_11; clear HO_12; clear BK344; clear HB; have HO_9 := n0_; have HO_10 := n1_; have HO_11 := n2_; have HO_12 := n3_; have BK344 := n4_; have HB := n5_; clear n0_ n1_ n2_ n3_ n4_ n5_; clear hg hw hp_)))
               go_roundg k3
               case measure => have := HJ2.out; have := HJ14.out; have := HK3.out; omega
               case rel => exact ⟨(y370), (wrap64 (x13_3 + 1)), rq, H', ⟨by have := HJ2.out; have := HJ14.out; have := HK3.out; omega⟩, ⟨kR HO_9⟩, ⟨kR HO_10⟩, ⟨kR HO_11⟩, ⟨by (with_reducible repeat (first | apply Kd.R_alloc | apply Kd.R_drewN | apply Kd.R_drew)); exact Kd.R_mono HO_12.out (fun _ hk => hk.2)⟩, ⟨kB BK344⟩, ⟨by repeat (first | (with_reducible first | exact HB.out | apply below_alloc | apply pw_below_drewN | apply below_drew1 | refine below_set ?_ GE344.out) | exact HB.out)⟩⟩
              ·
               rw [if_neg c34] at H
               exact absurd H (by simp)
             ·
              rw [if_neg c33] at H
              have c33b0 : decide ((t352.length : Int) ≤ x13_3) = false := decide_eq_false c33
              clear c33
              by_cases c40 : 0 ≤ x13_3
              ·
               rw [if_pos c40] at H
               have c40b0 : decide (0 ≤ x13_3) = true := decide_eq_true c40
               clear c40
               by_cases c41 : x13_3 < (t352.length : Int)
               ·
                rw [if_pos c41] at H
                have c41b0 : decide (x13_3 < (t352.length : Int)) = true := decide_eq_true c41
                clear c41
                obtain ⟨bq42, hbq42⟩ : ∃ b_ : Bool, b_ = (rdOf false t352 x13_3) := ⟨_, rfl⟩
                replace H : (if bq42 = true then (surmiselaw03_ExprValues.l0 k3 l0_0 a0_3 t345 t352 t353 x11_3 y367 (wrap64 (x13_3 + 1))) else (surmiselaw03_ExprValues.l0 k3 l0_0 a0_3 t345 t352 t353 (x11_3.set (x13_3 : Int).toNat a0_3) y367 (wrap64 (x13_3 + 1)))) = some r := by rw [← hbq42] at H; exact H
                have Nbq42 := Am hbq42
                clear hbq42
                by_cases c43 : bq42 = true
                ·
                 subst c43
                 have H1 : (surmiselaw03_ExprValues.l0 k3 l0_0 a0_3 t345 t352 t353 x11_3 y367 (wrap64 (x13_3 + 1))) = some r := by rw [if_pos rfl] at H; exact H
                 clear H
                 have H := H1
                 clear H1
                 have H' := Am H
                 clear H
                 obtain ⟨Ao44, co44, eo44⟩ := Kd.R_slice HO_11.out
                 subst eo44
                 obtain ⟨Ao45, co45, eo45⟩ := Kd.R_slice HO_9.out
                 subst eo45
                 have p371 : 0 ≤ (x13_3 : Int) := of_decide_eq_true az
                 have q371 : x13_3 < (t352.length : Int) := of_decide_eq_true az
                 obtain ⟨ad371, e371, hx371_0⟩ := Kd.at_bool (Kd.R_reads' HO_9.out).2.2 x13_3 p371 q371
                 (try rw [← Nbq42.out] at hx371_0)
                 cases e371
                 replace p371 := eq_true p371
                 replace q371 := eq_true q371
                 go_wp2
                 repeat (go_quiet (fail); try go_wp2)
                 go_roundg k3
                 case measure => have := HJ2.out; have := HJ14.out; have := HK3.out; omega
                 case rel => exact ⟨(x11_3), (wrap64 (x13_3 + 1)), rq, H', ⟨by have := HJ2.out; have := HJ14.out; have := HK3.out; omega⟩, ⟨kR HO_9⟩, ⟨kR HO_10⟩, ⟨kR HO_11⟩, ⟨kR HO_12⟩, ⟨kB BK344⟩, ⟨by repeat (first | (with_reducible first | exact HB.out | apply below_alloc | apply pw_below_drewN | apply below_drew1 | refine below_set ?_ GE344.out) | exact HB.out)⟩⟩
                ·
                 replace c43 := Bool.eq_false_iff.mpr c43
                 subst c43
                 have H1 : (surmiselaw03_ExprValues.l0 k3 l0_0 a0_3 t345 t352 t353 (x11_3.set (x13_3 : Int).toNat a0_3) y367 (wrap64 (x13_3 + 1))) = some r := by rw [if_neg (show ¬ (false = true) by decide)] at H; exact H
                 clear H
                 have H := H1
                 clear H1
                 obtain ⟨y372, hy372⟩ : ∃ y_ : List Int, y_ = (x11_3.set (x13_3 : Int).toNat a0_3) := ⟨_, rfl⟩
                 replace H : (surmiselaw03_ExprValues.l0 k3 l0_0 a0_3 t345 t352 t353 y372 y367 (wrap64 (x13_3 + 1))) = some r := by first | (rw [hy372]; with_reducible exact H) | (have H2_ := (Option.bind_some _ _).symm.trans H; rw [hy372]; with_reducible exact H2_) | (have H2_ := (Option.bind_some _ _).symm.trans H; with_reducible exact H2_) | with_reducible exact H | (rw [hy372]; exact H) | exact H
                 have Ny372 := Am hy372
                 clear hy372
                 have H' := Am H
                 clear H
                 obtain ⟨Ao47, co47, eo47⟩ := Kd.R_slice HO_11.out
                 subst eo47
                 obtain ⟨Ao48, co48, eo48⟩ := Kd.R_slice HO_9.out
                 subst eo48
                 have p371 : 0 ≤ (x13_3 : Int) := of_decide_eq_true az
                 have q371 : x13_3 < (t352.length : Int) := of_decide_eq_true az
                 obtain ⟨ad371, e371, hx371_0⟩ := Kd.at_bool (Kd.R_reads' HO_9.out).2.2 x13_3 p371 q371
                 (try rw [← Nbq42.out] at hx371_0)
                 cases e371
                 replace p371 := eq_true p371
                 replace q371 := eq_true q371
                 have p46 : 0 ≤ (x13_3 : Int) := of_decide_eq_true az
                 have q46 : (x13_3 : Int) < ((x11_3.length : Int) : Int) := of_decide_eq_true az
                 obtain ⟨go46, co46, eo46, gb46, gl46, cl46, HG46⟩ := Kd.R_form HO_11.out (by omega)
                 (first | cases eo46 | (injection eo46 with ea_ en_ ec_; (first | subst ea_ | (injection ea_ with ea_; subst ea_)); subst ec_; clear en_))
                 have GB46 := Am gb46
                 have GG46 := Am HG46
                 clear gb46 gl46 HG46
                 obtain ⟨hx46_0, hf46_0⟩ := Kd.R_celln 0 HO_11.out (x13_3 : Int) p46 q46
                 replace p46 := eq_true p46
                 replace q46 := eq_true q46
                 have HP49 := Kd.R_putg HO_11.out (x13_3 : Int) a0_3
                 go_wp2_with (first | ((with_reducible refine gate_store (t := 3) (p := 88) rfl ?_); (try (rw [drewN_self wr]; generalize hq_ : World.drewN wr _ = wr; have n0_ := Am (Kd.R_at hq_ HO_9.out); have n1_ := Am (Kd.R_at hq_ HO_10.out); have n2_ := Am (Kd.R_at hq_ HO_11.out); have n3_ := Am (Kd.R_at hq_ HO_12.out); have n4_ := Am (blk_at hq_ BK344.out); have n5_ := Am (below_at hq_ HB.out); clear hq_ HO_9 HO_10 HO_11 HO_12 BK344 HB; have HO_9 := n0_; have HO_10 := n1_; have HO_11 := n2_; have HO_12 := n3_; have BK344 := n4_; have HB := n5_; clear n0_ n1_ n2_ n3_ n4_ n5_; (try (have HP49 := Kd.R_putg HO_11.out (x13_3 : Int) a0_3)))); refine store_event (t := 3) (p := 88) (v := ?vo_w50) (w1 := (wr.setCell ⟨go46, (x13_3 : Int).toNat, none⟩ (.int .i64 a0_3))) ?hg ?ho ?hn ?hr ?_; (case ho => rfl); (case hg => rfl); (case hn => rfl); (case hr => first | (go_simp; done) | (go_simp; rfl)); intro w50 hw; have hg : wr.grownBy w50 (some go46) := (by rw [hw]; exact HP49.2); have hp_ : Kd.R (Kd.int .i64) 3 w50 w.heap.size (fun k_ => some k_ ≠ (v368 : Value).ownBlock) (.slice (some ⟨go46, 0, none⟩) x11_3.length co47) y372 := (by rw [hw, Ny372.out]; exact HP49.1); clear HP49; have n0_ := Am (Kd.R_over' (v := (.slice (some ⟨go46, 0, none⟩) x11_3.length co47)) (kR HO_9) (Kd.R_typed HO_11.out) (by decide) hg); have n1_ := Am (Kd.R_over' (v := (.slice (some ⟨go46, 0, none⟩) x11_3.length co47)) (kR HO_10) (Kd.R_typed HO_11.out) (by decide) hg); have n2_ := Am (hp_); have n3_ := Am (Kd.R_after (v := (.slice (some ⟨go46, 0, none⟩) x11_3.length co47)) (v1 := (.slice (some ⟨go46, 0, none⟩) x11_3.length co47)) (ok := (fun _ => True)) (by (with_reducible repeat (first | apply Kd.R_alloc | apply Kd.R_drewN | apply Kd.R_drew)); exact Kd.R_mono HO_12.out (fun _ hk => ⟨trivial, hk⟩)) hg (.inl rfl)); have n4_ := Am (blk_grown (g := gb344) (o := .cells #[.slice A0_0 l0_0.length c0_0, .slice A0_1 l0_1.length c0_1, .slice A0_2 l0_2.length c0_2, .int .i64 a0_3] 41 (0, 0)) (kB BK344) hg (Kd.R_ne HO_11.out BK344.out (by decide))); have n5_ := Am ((by rw [hw]; exact below_set (HB.out) GB46.out : Below w.heap.size w w50)); clear HO_9; clear HO_10; clear HO_11; clear HO_12; clear BK344; clear HB; have HO_9 := n0_; have HO_10 := n1_; have HO_11 := n2_; have HO_12 := n3_; have BK344 := n4_; have HB := n5_; clear n0_ n1_ n2_ n3_ n4_ n5_; clear hg hw hp_))
                 repeat (go_quiet (first | ((with_reducible refine gate_store (t := 3) (p := 88) rfl ?_); (try (rw [drewN_self wr]; generalize hq_ : World.drewN wr _ = wr; have n0_ := Am (Kd.R_at hq_ HO_9.out); have n1_ := Am (Kd.R_at hq_ HO_10.out); have n2_ := Am (Kd.R_at hq_ HO_11.out); have n3_ := Am (Kd.R_at hq_ HO_12.out); have n4_ := Am (blk_at hq_ BK344.out); have n5_ := Am (below_at hq_ HB.out); clear hq_ HO_9 HO_10 HO_11 HO_12 BK344 HB; have HO_9 := n0_; have HO_10 := n1_; have HO_11 := n2_; have HO_12 := n3_; have BK344 := n4_; have HB := n5_; clear n0_ n1_ n2_ n3_ n4_ n5_; (try (have HP49 := Kd.R_putg HO_11.out (x13_3 : Int) a0_3)))); refine store_event (t := 3) (p := 88) (v := ?vo_w50) (w1 := (wr.setCell ⟨go46, (x13_3 : Int).toNat, none⟩ (.int .i64 a0_3))) ?hg ?ho ?hn ?hr ?_; (case ho => rfl); (case hg => rfl); (case hn => rfl); (case hr => first | (go_simp; done) | (go_simp; rfl)); intro w50 hw; have hg : wr.grownBy w50 (some go46) := (by rw [hw]; exact HP49.2); have hp_ : Kd.R (Kd.int .i64) 3 w50 w.heap.size (fun k_ => some k_ ≠ (v368 : Value).ownBlock) (.slice (some ⟨go46, 0, none⟩) x11_3.length co47) y372 := (by rw [hw, Ny372.out]; exact HP49.1); clear HP49; have n0_ := Am (Kd.R_over' (v := (.slice (some ⟨go46, 0, none⟩) x11_3.length co47)) (kR HO_9) (Kd.R_typed HO_11.out) (by decide) hg); have n1_ := Am (Kd.R_over' (v := (.slice (some ⟨go46, 0, none⟩) x11_3.length co47)) (kR HO_10) (Kd.R_typed HO_11.out) (by decide) hg); have n2_ := Am (hp_); have n3_ := Am (Kd.R_after (v := (.slice (some ⟨go46, 0, none⟩) x11_3.length co47)) (v1 := (.slice (some ⟨go46, 0, none⟩) x11_3.length co47)) (ok := (fun _ => True)) (by (with_reducible repeat (first | apply Kd.R_alloc | apply Kd.R_drewN | apply Kd.R_drew)); exact Kd.R_mono HO_12.out (fun _ hk => ⟨trivial, hk⟩)) hg (.inl rfl)); have n4_ := Am (blk_grown (g := gb344) (o := .cells #[.slice A0_0 l0_0.length c0_0, .slice A0_1 l0_1.length c0_1, .slice A0_2 l0_2.length c0_2, .int .i64 a0_3] 41 (0, 0)) (kB BK344) hg (Kd.R_ne HO_11.out BK344.out (by decide))); have n5_ := Am ((by rw [hw]; exact below_set (HB.out) GB46.out : Below w.heap.size w w50)); clear HO_9; clear HO_10; clear HO_11; clear HO_12; clear BK344; clear HB; have HO_9 := n0_; have HO_10 := n1_; have HO_11 := n2_; have HO_12 := n3_; have BK344 := n4_; have HB := n5_; clear n0_ n1_ n2_ n3_ n4_ n5_; clear hg hw hp_)); try go_wp2_with (first | ((with_reducible refine gate_store (t := 3) (p := 88) rfl ?_); (try (rw [drewN_self wr]; generalize hq_ : World.drewN wr _ = wr; have n0_ := Am (Kd.R_at hq_ HO_9.out); have n1_ := Am (Kd.R_at hq_ HO_10.out); have n2_ := Am (Kd.R_at hq_ HO_11.out); have n3_ := Am (Kd.R_at hq_ HO_12.out); have n4_ := Am (blk_at hq_ BK344.out); have n5_ := Am (below_at hq_ HB.out); clear hq_ HO_9 HO_10 HO_11 HO_12 BK344 HB; have HO_9 := n0_; have HO_10 := n1_; have HO_11 := n2_; have HO_12 := n3_; have BK344 := n4_; have HB := n5_; clear n0_ n1_ n2_ n3_ n4_ n5_; (try (have HP49 := Kd.R_putg HO_11.out (x13_3 : Int) a0_3)))); refine store_event (t := 3) (p := 88) (v := ?vo_w50) (w1 := (wr.setCell ⟨go46, (x13_3 : Int).toNat, none⟩ (.int .i64 a0_3))) ?hg ?ho ?hn ?hr ?_; (case ho => rfl); (case hg => rfl); (case hn => rfl); (case hr => first | (go_simp; done) | (go_simp; rfl)); intro w50 hw; have hg : wr.grownBy w50 (some go46) := (by rw [hw]; exact HP49.2); have hp_ : Kd.R (Kd.int .i64) 3 w50 w.heap.size (fun k_ => some k_ ≠ (v368 : Value).ownBlock) (.slice (some ⟨go46, 0, none⟩) x11_3.length co47) y372 := (by rw [hw, Ny372.out]; exact HP49.1); clear HP49; have n0_ := Am (Kd.R_over' (v := (.slice (some ⟨go46, 0, none⟩) x11_3.length co47)) (kR HO_9) (Kd.R_typed HO_11.out) (by decide) hg); have n1_ := Am (Kd.R_over' (v := (.slice (some ⟨go46, 0, none⟩) x11_3.length co47)) (kR HO_10) (Kd.R_typed HO_11.out) (by decide) hg); have n2_ := Am (hp_); have n3_ := Am (Kd.R_after (v := (.slice (some ⟨go46, 0, none⟩) x11_3.length co47)) (v1 := (.slice (some ⟨go46, 0, none⟩) x11_3.length co47)) (ok := (fun _ => True)) (by (with_reducible repeat (first | apply Kd.R_alloc | apply Kd.R_drewN | apply Kd.R_drew)); exact Kd.R_mono HO_12.out (fun _ hk => ⟨trivial, hk⟩)) hg (.inl rfl)); have n4_ := Am (blk_grown (g := gb344) (o := .cells #[.slice A0_0 l0_0.length c0_0, .slice A0_1 l0_1.length c0_1, .slice A0_2 l0_2.length c0_2, .int .i64 a0_3] 41 (0, 0)) (kB BK344) hg (Kd.R_ne HO_11.out BK344.out (by decide))); have n5_ := Am ((by rw [hw]; exact below_set (HB.out) GB46.out : Below w.heap.size w w50)); clear HO_9; clear HO_10; clear HO_11; clear HO_12; clear BK344; clear HB; have HO_9 := n0_; have HO_10 := n1_; have HO_11 := n2_; have HO_12 := n3_; have BK344 := n4_; have HB := n5_; clear n0_ n1_ n2_ n3_ n4_ n5_; clear hg hw hp_)))
                 go_roundg k3
                 case measure => have := HJ2.out; have := HJ14.out; have := HK3.out; omega
                 case rel => exact ⟨(y372), (wrap64 (x13_3 + 1)), rq, H', ⟨by have := HJ2.out; have := HJ14.out; have := HK3.out; omega⟩, ⟨kR HO_9⟩, ⟨kR HO_10⟩, ⟨kR HO_11⟩, ⟨by (with_reducible repeat (first | apply Kd.R_alloc | apply Kd.R_drewN | apply Kd.R_drew)); exact Kd.R_mono HO_12.out (fun _ hk => hk.2)⟩, ⟨kB BK344⟩, ⟨by repeat (first | (with_reducible first | exact HB.out | apply below_alloc | apply pw_below_drewN | apply below_drew1 | refine below_set ?_ GE344.out) | exact HB.out)⟩⟩
               ·
                rw [if_neg c41] at H
                exact absurd H (by simp)
              ·
               rw [if_neg c40] at H
               exact absurd H (by simp)
            ·
             rw [if_neg c32] at H
             have c32b0 : decide (x13_3 < 6) = false := decide_eq_false c32
             clear c32
             have H' := Am H
             clear H
             obtain ⟨Ao51, co51, eo51⟩ := Kd.R_slice HO_11.out
             subst eo51
             go_wp2
             repeat (go_quiet (fail); try go_wp2)
             go_roundg k3
             case measure => have := HJ2.out; have := HJ14.out; have := HK3.out; omega
             case rel => exact ⟨(x11_3), (wrap64 (x13_3 + 1)), rq, H', ⟨by have := HJ2.out; have := HJ14.out; have := HK3.out; omega⟩, ⟨kR HO_9⟩, ⟨kR HO_10⟩, ⟨kR HO_11⟩, ⟨kR HO_12⟩, ⟨kB BK344⟩, ⟨by repeat (first | (with_reducible first | exact HB.out | apply below_alloc | apply pw_below_drewN | apply below_drew1 | refine below_set ?_ GE344.out) | exact HB.out)⟩⟩
           ·
            rw [if_neg c31] at H
            have c31b0 : decide (x13_3 < (x11_3.length : Int)) = false := decide_eq_false c31
            clear c31
            have H' := Am H
            clear H
            obtain ⟨Ao52, co52, eo52⟩ := Kd.R_slice HO_11.out
            subst eo52
            go_wp2
            repeat (go_quiet (fail); try go_wp2)
            go_loopg [14] k3 (fun kq v14 w' => ∃ (x12_4 : List Int) (x14_4 : Int), v14 = .int .i64 x14_4 ∧ Aside0 (surmiselaw03_ExprValues.l1 kq l0_0 a0_3 t345 t353 x11_3 x12_4 x14_4 = some r) ∧ Aside0 (kq ≤ k3) ∧ Aside0 (Kd.R Kd.bool 4 w' w.heap.size (fun _ => True) v356 t353) ∧ Aside0 (Kd.R (Kd.int .i64) 3 w' w.heap.size (fun k_ => some k_ ≠ (v368 : Value).ownBlock) (.slice Ao52 x11_3.length co52) x11_3) ∧ Aside0 (Kd.R (Kd.int .i64) 3 w' w.heap.size (fun k_ => some k_ ≠ ((.slice Ao52 x11_3.length co52) : Value).ownBlock) v368 x12_4) ∧ Aside0 (w'.heap[gb344]? = some (.cells #[(.slice A0_0 l0_0.length c0_0), (.slice A0_1 l0_1.length c0_1), (.slice A0_2 l0_2.length c0_2), .int .i64 a0_3] 41 (0, 0))) ∧ Aside0 (Below w.heap.size w w'))
            case atStart => exact ⟨(y367), (0), rq, H', ⟨Nat.le_refl _⟩, ⟨by (with_reducible repeat (first | apply Kd.R_alloc | apply Kd.R_drewN | apply Kd.R_drew)); exact Kd.R_mono HO_10.out (fun _ hk => trivial)⟩, ⟨kR HO_11⟩, ⟨kR HO_12⟩, ⟨kB BK344⟩, ⟨by repeat (first | (with_reducible first | exact HB.out | apply below_alloc | apply pw_below_drewN | apply below_drew1 | refine below_set ?_ GE344.out) | exact HB.out)⟩⟩
            case round =>
             clear H'
             try clear c1
             try clear c2
             try clear p2
             try clear c3
             try clear p3
             try clear q3
             try clear hx3
             try clear hf3
             try clear c4
             try clear p4
             try clear q4
             try clear hx4
             try clear hf4
             try clear p6
             try clear c7
             try clear c8
             try clear c11
             try clear c13
             try clear c17
             try clear c19
             try clear c22
             try clear c23
             try clear c31
             try clear c31b0
             try clear c32
             try clear c32b0
             try clear c33
             try clear c33b0
             try clear c34
             try clear c34b0
             try clear p35
             try clear q35
             try clear hx35
             try clear hf35
             try clear p37
             try clear q37
             try clear hx37
             try clear c40
             try clear c40b0
             try clear c41
             try clear c41b0
             try clear q42
             try clear c43
             try clear p46
             try clear q46
             try clear hx46
             try clear hf46
             try clear hcz5_0
             try clear hcz5_1
             try clear hcz5_2
             try clear hcz5_3
             try clear hfz5_0
             try clear hfz5_1
             try clear hfz5_2
             try clear hfz5_3
             try clear hx35_0
             try clear hx371_0
             try clear hx46_0
             try clear p2
             try clear p35
             try clear p371
             try clear p46
             try clear q35
             try clear q371
             try clear q46
             obtain ⟨x12_4, x14_4, rfl, HA, HK4, HO_10, HO_11, HO_12, BK344, HB⟩ := hrel
             cases gk with
             | zero => exact absurd HA.out (by simp [surmiselaw03_ExprValues.l1])
             | succ k4 =>
              have H := HA.out
              clear HA
              simp only [surmiselaw03_ExprValues.l1] at H
              by_cases c53 : x14_4 < (x12_4.length : Int)
              ·
               rw [if_pos c53] at H
               have c53b0 : decide (x14_4 < (x12_4.length : Int)) = true := decide_eq_true c53
               clear c53
               by_cases c54 : x14_4 < 4
               ·
                rw [if_pos c54] at H
                have c54b0 : decide (x14_4 < 4) = true := decide_eq_true c54
                clear c54
                by_cases c55 : x14_4 ≥ (t353.length : Int)
                ·
                 rw [if_pos c55] at H
                 have c55b0 : decide ((t353.length : Int) ≤ x14_4) = true := decide_eq_true c55
                 clear c55
                 by_cases c56 : 0 ≤ x14_4
                 ·
                  rw [if_pos c56] at H
                  have c56b0 : decide (0 ≤ x14_4) = true := decide_eq_true c56
                  clear c56
                  obtain ⟨y373, hy373⟩ : ∃ y_ : List Int, y_ = (x12_4.set (x14_4 : Int).toNat a0_3) := ⟨_, rfl⟩
                  replace H : (surmiselaw03_ExprValues.l1 k4 l0_0 a0_3 t345 t353 x11_3 y373 (wrap64 (x14_4 + 1))) = some r := by first | (rw [hy373]; with_reducible exact H) | (have H2_ := (Option.bind_some _ _).symm.trans H; rw [hy373]; with_reducible exact H2_) | (have H2_ := (Option.bind_some _ _).symm.trans H; with_reducible exact H2_) | with_reducible exact H | (rw [hy373]; exact H) | exact H
                  have Ny373 := Am hy373
                  clear hy373
                  have H' := Am H
                  clear H
                  obtain ⟨Ao58, co58, eo58⟩ := Kd.R_slice HO_12.out
                  subst eo58
                  obtain ⟨Ao59, co59, eo59⟩ := Kd.R_slice HO_10.out
                  subst eo59
                  have p57 : 0 ≤ (x14_4 : Int) := of_decide_eq_true az
                  have q57 : (x14_4 : Int) < ((x12_4.length : Int) : Int) := of_decide_eq_true az
                  obtain ⟨go57, co57, eo57, gb57, gl57, cl57, HG57⟩ := Kd.R_form HO_12.out (by omega)
                  (first | cases eo57 | (injection eo57 with ea_ en_ ec_; (first | subst ea_ | (injection ea_ with ea_; subst ea_)); subst ec_; clear en_))
                  have GB57 := Am gb57
                  have GG57 := Am HG57
                  clear gb57 gl57 HG57
                  obtain ⟨hx57_0, hf57_0⟩ := Kd.R_celln 0 HO_12.out (x14_4 : Int) p57 q57
                  replace p57 := eq_true p57
                  replace q57 := eq_true q57
                  have HP60 := Kd.R_putg HO_12.out (x14_4 : Int) a0_3
                  go_wp2_with (first | ((with_reducible refine gate_store (t := 3) (p := 113) rfl ?_); (try (rw [drewN_self wr]; generalize hq_ : World.drewN wr _ = wr; have n0_ := Am (Kd.R_at hq_ HO_10.out); have n1_ := Am (Kd.R_at hq_ HO_11.out); have n2_ := Am (Kd.R_at hq_ HO_12.out); have n3_ := Am (blk_at hq_ BK344.out); have n4_ := Am (below_at hq_ HB.out); clear hq_ HO_10 HO_11 HO_12 BK344 HB; have HO_10 := n0_; have HO_11 := n1_; have HO_12 := n2_; have BK344 := n3_; have HB := n4_; clear n0_ n1_ n2_ n3_ n4_; (try (have HP60 := Kd.R_putg HO_12.out (x14_4 : Int) a0_3)))); refine store_event (t := 3) (p := 113) (v := ?vo_w61) (w1 := (wr.setCell ⟨go57, (x14_4 : Int).toNat, none⟩ (.int .i64 a0_3))) ?hg ?ho ?hn ?hr ?_; (case ho => rfl); (case hg => rfl); (case hn => rfl); (case hr => first | (go_simp; done) | (go_simp; rfl)); intro w61 hw; have hg : wr.grownBy w61 (some go57) := (by rw [hw]; exact HP60.2); have hp_ : Kd.R (Kd.int .i64) 3 w61 w.heap.size (fun k_ => some k_ ≠ (.slice Ao52 x11_3.length co52 : Value).ownBlock) (.slice (some ⟨go57, 0, none⟩) x12_4.length co58) y373 := (by rw [hw, Ny373.out]; exact HP60.1); clear HP60; have n0_ := Am (Kd.R_over' (v := (.slice (some ⟨go57, 0, none⟩) x12_4.length co58)) (kR HO_10) (Kd.R_typed HO_12.out) (by decide) hg); have n1_ := Am (Kd.R_after (v := (.slice (some ⟨go57, 0, none⟩) x12_4.length co58)) (v1 := (.slice (some ⟨go57, 0, none⟩) x12_4.length co58)) (ok := (fun _ => True)) (by (with_reducible repeat (first | apply Kd.R_alloc | apply Kd.R_drewN | apply Kd.R_drew)); exact Kd.R_mono HO_11.out (fun _ hk => ⟨trivial, hk⟩)) hg (.inl rfl)); have n2_ := Am (hp_); have n3_ := Am (blk_grown (g := gb344) (o := .cells #[.slice A0_0 l0_0.length c0_0, .slice A0_1 l0_1.length c0_1, .slice A0_2 l0_2.length c0_2, .int .i64 a0_3] 41 (0, 0)) (kB BK344) hg (Kd.R_ne HO_12.out BK344.out (by decide))); have n4_ := Am ((by rw [hw]; exact below_set (HB.out) GB57.out : Below w.heap.size w w61)); clear HO_10; clear HO_11; clear HO_12; clear BK344; clear HB; have HO_10 := n0_; have HO_11 := n1_; have HO_12 := n2_; have BK344 := n3_; have HB := n4_; clear n0_ n1_ n2_ n3_ n4_; clear hg hw hp_))
                  repeat (go_quiet (first | ((with_reducible refine gate_store (t := 3) (p := 113) rfl ?_); (try (rw [drewN_self wr]; generalize hq_ : World.drewN wr _ = wr; have n0_ := Am (Kd.R_at hq_ HO_10.out); have n1_ := Am (Kd.R_at hq_ HO_11.out); have n2_ := Am (Kd.R_at hq_ HO_12.out); have n3_ := Am (blk_at hq_ BK344.out); have n4_ := Am (below_at hq_ HB.out); clear hq_ HO_10 HO_11 HO_12 BK344 HB; have HO_10 := n0_; have HO_11 := n1_; have HO_12 := n2_; have BK344 := n3_; have HB := n4_; clear n0_ n1_ n2_ n3_ n4_; (try (have HP60 := Kd.R_putg HO_12.out (x14_4 : Int) a0_3)))); refine store_event (t := 3) (p := 113) (v := ?vo_w61) (w1 := (wr.setCell ⟨go57, (x14_4 : Int).toNat, none⟩ (.int .i64 a0_3))) ?hg ?ho ?hn ?hr ?_; (case ho => rfl); (case hg => rfl); (case hn => rfl); (case hr => first | (go_simp; done) | (go_simp; rfl)); intro w61 hw; have hg : wr.grownBy w61 (some go57) := (by rw [hw]; exact HP60.2); have hp_ : Kd.R (Kd.int .i64) 3 w61 w.heap.size (fun k_ => some k_ ≠ (.slice Ao52 x11_3.length co52 : Value).ownBlock) (.slice (some ⟨go57, 0, none⟩) x12_4.length co58) y373 := (by rw [hw, Ny373.out]; exact HP60.1); clear HP60; have n0_ := Am (Kd.R_over' (v := (.slice (some ⟨go57, 0, none⟩) x12_4.length co58)) (kR HO_10) (Kd.R_typed HO_12.out) (by decide) hg); have n1_ := Am (Kd.R_after (v := (.slice (some ⟨go57, 0, none⟩) x12_4.length co58)) (v1 := (.slice (some ⟨go57, 0, none⟩) x12_4.length co58)) (ok := (fun _ => True)) (by (with_reducible repeat (first | apply Kd.R_alloc | apply Kd.R_drewN | apply Kd.R_drew)); exact Kd.R_mono HO_11.out (fun _ hk => ⟨trivial, hk⟩)) hg (.inl rfl)); have n2_ := Am (hp_); have n3_ := Am (blk_grown (g := gb344) (o := .cells #[.slice A0_0 l0_0.length c0_0, .slice A0_1 l0_1.length c0_1, .slice A0_2 l0_2.length c0_2, .int .i64 a0_3] 41 (0, 0)) (kB BK344) hg (Kd.R_ne HO_12.out BK344.out (by decide))); have n4_ := Am ((by rw [hw]; exact below_set (HB.out) GB57.out : Below w.heap.size w w61)); clear HO_10; clear HO_11; clear HO_12; clear BK344; clear HB; have HO_10 := n0_; have HO_11 := n1_; have HO_12 := n2_; have BK344 := n3_; have HB := n4_; clear n0_ n1_ n2_ n3_ n4_; clear hg hw hp_)); try go_wp2_with (first | ((with_reducible refine gate_store (t := 3) (p := 113) rfl ?_); (try (rw [drewN_self wr]; generalize hq_ : World.drewN wr _ = wr; have n0_ := Am (Kd.R_at hq_ HO_10.out); have n1_ := Am (Kd.R_at hq_ HO_11.out); have n2_ := Am (Kd.R_at hq_ HO_12.out); have n3_ := Am (blk_at hq_ BK344.out); have n4_ := Am (below_at hq_ HB.out); clear hq_ HO_10 HO_11 HO_12 BK344 HB; have HO_10 := n0_; have HO_11 := n1_; have HO_12 := n2_; have BK344 := n3_; have HB := n4_; clear n0_ n1_ n2_ n3_ n4_; (try (have HP60 := Kd.R_putg HO_12.out (x14_4 : Int) a0_3)))); refine store_event (t := 3) (p := 113) (v := ?vo_w61) (w1 := (wr.setCell ⟨go57, (x14_4 : Int).toNat, none⟩ (.int .i64 a0_3))) ?hg ?ho ?hn ?hr ?_; (case ho => rfl); (case hg => rfl); (case hn => rfl); (case hr => first | (go_simp; done) | (go_simp; rfl)); intro w61 hw; have hg : wr.grownBy w61 (some go57) := (by rw [hw]; exact HP60.2); have hp_ : Kd.R (Kd.int .i64) 3 w61 w.heap.size (fun k_ => some k_ ≠ (.slice Ao52 x11_3.length co52 : Value).ownBlock) (.slice (some ⟨go57, 0, none⟩) x12_4.length co58) y373 := (by rw [hw, Ny373.out]; exact HP60.1); clear HP60; have n0_ := Am (Kd.R_over' (v := (.slice (some ⟨go57, 0, none⟩) x12_4.length co58)) (kR HO_10) (Kd.R_typed HO_12.out) (by decide) hg); have n1_ := Am (Kd.R_after (v := (.slice (some ⟨go57, 0, none⟩) x12_4.length co58)) (v1 := (.slice (some ⟨go57, 0, none⟩) x12_4.length co58)) (ok := (fun _ => True)) (by (with_reducible repeat (first | apply Kd.R_alloc | apply Kd.R_drewN | apply Kd.R_drew)); exact Kd.R_mono HO_11.out (fun _ hk => ⟨trivial, hk⟩)) hg (.inl rfl)); have n2_ := Am (hp_); have n3_ := Am (blk_grown (g := gb344) (o := .cells #[.slice A0_0 l0_0.length c0_0, .slice A0_1 l0_1.length c0_1, .slice A0_2 l0_2.length c0_2, .int .i64 a0_3] 41 (0, 0)) (kB BK344) hg (Kd.R_ne HO_12.out BK344.out (by decide))); have n4_ := Am ((by rw [hw]; exact below_set (HB.out) GB57.out : Below w.heap.size w w61)); clear HO_10; clear HO_11; clear HO_12; clear BK344; clear HB; have HO_10 := n0_; have HO_11 := n1_; have HO_12 := n2_; have BK344 := n3_; have HB := n4_; clear n0_ n1_ n2_ n3_ n4_; clear hg hw hp_)))
                  go_roundg k4
                  case measure => have := HJ2.out; have := HJ14.out; have := HK3.out; have := HK4.out; omega
                  case rel => exact ⟨(y373), (wrap64 (x14_4 + 1)), rq, H', ⟨by have := HJ2.out; have := HJ14.out; have := HK3.out; have := HK4.out; omega⟩, ⟨kR HO_10⟩, ⟨by (with_reducible repeat (first | apply Kd.R_alloc | apply Kd.R_drewN | apply Kd.R_drew)); exact Kd.R_mono HO_11.out (fun _ hk => hk.2)⟩, ⟨kR HO_12⟩, ⟨kB BK344⟩, ⟨by repeat (first | (with_reducible first | exact HB.out | apply below_alloc | apply pw_below_drewN | apply below_drew1 | refine below_set ?_ GE344.out) | exact HB.out)⟩⟩
                 ·
                  rw [if_neg c56] at H
                  exact absurd H (by simp)
                ·
                 rw [if_neg c55] at H
                 have c55b0 : decide ((t353.length : Int) ≤ x14_4) = false := decide_eq_false c55
                 clear c55
                 by_cases c62 : 0 ≤ x14_4
                 ·
                  rw [if_pos c62] at H
                  have c62b0 : decide (0 ≤ x14_4) = true := decide_eq_true c62
                  clear c62
                  by_cases c63 : x14_4 < (t353.length : Int)
                  ·
                   rw [if_pos c63] at H
                   have c63b0 : decide (x14_4 < (t353.length : Int)) = true := decide_eq_true c63
                   clear c63
                   obtain ⟨bq64, hbq64⟩ : ∃ b_ : Bool, b_ = (rdOf false t353 x14_4) := ⟨_, rfl⟩
                   replace H : (if bq64 = true then (surmiselaw03_ExprValues.l1 k4 l0_0 a0_3 t345 t353 x11_3 x12_4 (wrap64 (x14_4 + 1))) else (surmiselaw03_ExprValues.l1 k4 l0_0 a0_3 t345 t353 x11_3 (x12_4.set (x14_4 : Int).toNat a0_3) (wrap64 (x14_4 + 1)))) = some r := by rw [← hbq64] at H; exact H
                   have Nbq64 := Am hbq64
                   clear hbq64
                   by_cases c65 : bq64 = true
                   ·
                    subst c65
                    have H1 : (surmiselaw03_ExprValues.l1 k4 l0_0 a0_3 t345 t353 x11_3 x12_4 (wrap64 (x14_4 + 1))) = some r := by rw [if_pos rfl] at H; exact H
                    clear H
                    have H := H1
                    clear H1
                    have H' := Am H
                    clear H
                    obtain ⟨Ao66, co66, eo66⟩ := Kd.R_slice HO_12.out
                    subst eo66
                    obtain ⟨Ao67, co67, eo67⟩ := Kd.R_slice HO_10.out
                    subst eo67
                    have p374 : 0 ≤ (x14_4 : Int) := of_decide_eq_true az
                    have q374 : x14_4 < (t353.length : Int) := of_decide_eq_true az
                    obtain ⟨ad374, e374, hx374_0⟩ := Kd.at_bool (Kd.R_reads' HO_10.out).2.2 x14_4 p374 q374
                    (try rw [← Nbq64.out] at hx374_0)
                    cases e374
                    replace p374 := eq_true p374
                    replace q374 := eq_true q374
                    go_wp2
                    repeat (go_quiet (fail); try go_wp2)
                    go_roundg k4
                    case measure => have := HJ2.out; have := HJ14.out; have := HK3.out; have := HK4.out; omega
                    case rel => exact ⟨(x12_4), (wrap64 (x14_4 + 1)), rq, H', ⟨by have := HJ2.out; have := HJ14.out; have := HK3.out; have := HK4.out; omega⟩, ⟨kR HO_10⟩, ⟨kR HO_11⟩, ⟨kR HO_12⟩, ⟨kB BK344⟩, ⟨by repeat (first | (with_reducible first | exact HB.out | apply below_alloc | apply pw_below_drewN | apply below_drew1 | refine below_set ?_ GE344.out) | exact HB.out)⟩⟩
                   ·
                    replace c65 := Bool.eq_false_iff.mpr c65
                    subst c65
                    have H1 : (surmiselaw03_ExprValues.l1 k4 l0_0 a0_3 t345 t353 x11_3 (x12_4.set (x14_4 : Int).toNat a0_3) (wrap64 (x14_4 + 1))) = some r := by rw [if_neg (show ¬ (false = true) by decide)] at H; exact H
                    clear H
                    have H := H1
                    clear H1
                    obtain ⟨y375, hy375⟩ : ∃ y_ : List Int, y_ = (x12_4.set (x14_4 : Int).toNat a0_3) := ⟨_, rfl⟩
                    replace H : (surmiselaw03_ExprValues.l1 k4 l0_0 a0_3 t345 t353 x11_3 y375 (wrap64 (x14_4 + 1))) = some r := by first | (rw [hy375]; with_reducible exact H) | (have H2_ := (Option.bind_some _ _).symm.trans H; rw [hy375]; with_reducible exact H2_) | (have H2_ := (Option.bind_some _ _).symm.trans H; with_reducible exact H2_) | with_reducible exact H | (rw [hy375]; exact H) | exact H
                    have Ny375 := Am hy375
                    clear hy375
                    have H' := Am H
                    clear H
                    obtain ⟨Ao69, co69, eo69⟩ := Kd.R_slice HO_12.out
                    subst eo69
                    obtain ⟨Ao70, co70, eo70⟩ := Kd.R_slice HO_10.out
                    subst eo70
                    have p374 : 0 ≤ (x14_4 : Int) := of_decide_eq_true az
                    have q374 : x14_4 < (t353.length : Int) := of_decide_eq_true az
                    obtain ⟨ad374, e374, hx374_0⟩ := Kd.at_bool (Kd.R_reads' HO_10.out).2.2 x14_4 p374 q374
                    (try rw [← Nbq64.out] at hx374_0)
                    cases e374
                    replace p374 := eq_true p374
                    replace q374 := eq_true q374
                    have p68 : 0 ≤ (x14_4 : Int) := of_decide_eq_true az
                    have q68 : (x14_4 : Int) < ((x12_4.length : Int) : Int) := of_decide_eq_true az
                    obtain ⟨go68, co68, eo68, gb68, gl68, cl68, HG68⟩ := Kd.R_form HO_12.out (by omega)
                    (first | cases eo68 | (injection eo68 with ea_ en_ ec_; (first | subst ea_ | (injection ea_ with ea_; subst ea_)); subst ec_; clear en_))
                    have GB68 := Am gb68
                    have GG68 := Am HG68
                    clear gb68 gl68 HG68
                    obtain ⟨hx68_0, hf68_0⟩ := Kd.R_celln 0 HO_12.out (x14_4 : Int) p68 q68
                    replace p68 := eq_true p68
                    replace q68 := eq_true q68
                    have HP71 := Kd.R_putg HO_12.out (x14_4 : Int) a0_3
                    go_wp2_with (first | ((with_reducible refine gate_store (t := 3) (p := 113) rfl ?_); (try (rw [drewN_self wr]; generalize hq_ : World.drewN wr _ = wr; have n0_ := Am (Kd.R_at hq_ HO_10.out); have n1_ := Am (Kd.R_at hq_ HO_11.out); have n2_ := Am (Kd.R_at hq_ HO_12.out); have n3_ := Am (blk_at hq_ BK344.out); have n4_ := Am (below_at hq_ HB.out); clear hq_ HO_10 HO_11 HO_12 BK344 HB; have HO_10 := n0_; have HO_11 := n1_; have HO_12 := n2_; have BK344 := n3_; have HB := n4_; clear n0_ n1_ n2_ n3_ n4_; (try (have HP71 := Kd.R_putg HO_12.out (x14_4 : Int) a0_3)))); refine store_event (t := 3) (p := 113) (v := ?vo_w72) (w1 := (wr.setCell ⟨go68, (x14_4 : Int).toNat, none⟩ (.int .i64 a0_3))) ?hg ?ho ?hn ?hr ?_; (case ho => rfl); (case hg => rfl); (case hn => rfl); (case hr => first | (go_simp; done) | (go_simp; rfl)); intro w72 hw; have hg : wr.grownBy w72 (some go68) := (by rw [hw]; exact HP71.2); have hp_ : Kd.R (Kd.int .i64) 3 w72 w.heap.size (fun k_ => some k_ ≠ (.slice Ao52 x11_3.length co52 : Value).ownBlock) (.slice (some ⟨go68, 0, none⟩) x12_4.length co69) y375 := (by rw [hw, Ny375.out]; exact HP71.1); clear HP71; have n0_ := Am (Kd.R_over' (v := (.slice (some ⟨go68, 0, none⟩) x12_4.length co69)) (kR HO_10) (Kd.R_typed HO_12.out) (by decide) hg); have n1_ := Am (Kd.R_after (v := (.slice (some ⟨go68, 0, none⟩) x12_4.length co69)) (v1 := (.slice (some ⟨go68, 0, none⟩) x12_4.length co69)) (ok := (fun _ => True)) (by (with_reducible repeat (first | apply Kd.R_alloc | apply Kd.R_drewN | apply Kd.R_drew)); exact Kd.R_mono HO_11.out (fun _ hk => ⟨trivial, hk⟩)) hg (.inl rfl)); have n2_ := Am (hp_); have n3_ := Am (blk_grown (g := gb344) (o := .cells #[.slice A0_0 l0_0.length c0_0, .slice A0_1 l0_1.length c0_1, .slice A0_2 l0_2.length c0_2, .int .i64 a0_3] 41 (0, 0)) (kB BK344) hg (Kd.R_ne HO_12.out BK344.out (by decide))); have n4_ := Am ((by rw [hw]; exact below_set (HB.out) GB68.out : Below w.heap.size w w72)); clear HO_10; clear HO_11; clear HO_12; clear BK344; clear HB; have HO_10 := n0_; have HO_11 := n1_; have HO_12 := n2_; have BK344 := n3_; have HB := n4_; clear n0_ n1_ n2_ n3_ n4_; clear hg hw hp_))
                    repeat (go_quiet (first | ((with_reducible refine gate_store (t := 3) (p := 113) rfl ?_); (try (rw [drewN_self wr]; generalize hq_ : World.drewN wr _ = wr; have n0_ := Am (Kd.R_at hq_ HO_10.out); have n1_ := Am (Kd.R_at hq_ HO_11.out); have n2_ := Am (Kd.R_at hq_ HO_12.out); have n3_ := Am (blk_at hq_ BK344.out); have n4_ := Am (below_at hq_ HB.out); clear hq_ HO_10 HO_11 HO_12 BK344 HB; have HO_10 := n0_; have HO_11 := n1_; have HO_12 := n2_; have BK344 := n3_; have HB := n4_; clear n0_ n1_ n2_ n3_ n4_; (try (have HP71 := Kd.R_putg HO_12.out (x14_4 : Int) a0_3)))); refine store_event (t := 3) (p := 113) (v := ?vo_w72) (w1 := (wr.setCell ⟨go68, (x14_4 : Int).toNat, none⟩ (.int .i64 a0_3))) ?hg ?ho ?hn ?hr ?_; (case ho => rfl); (case hg => rfl); (case hn => rfl); (case hr => first | (go_simp; done) | (go_simp; rfl)); intro w72 hw; have hg : wr.grownBy w72 (some go68) := (by rw [hw]; exact HP71.2); have hp_ : Kd.R (Kd.int .i64) 3 w72 w.heap.size (fun k_ => some k_ ≠ (.slice Ao52 x11_3.length co52 : Value).ownBlock) (.slice (some ⟨go68, 0, none⟩) x12_4.length co69) y375 := (by rw [hw, Ny375.out]; exact HP71.1); clear HP71; have n0_ := Am (Kd.R_over' (v := (.slice (some ⟨go68, 0, none⟩) x12_4.length co69)) (kR HO_10) (Kd.R_typed HO_12.out) (by decide) hg); have n1_ := Am (Kd.R_after (v := (.slice (some ⟨go68, 0, none⟩) x12_4.length co69)) (v1 := (.slice (some ⟨go68, 0, none⟩) x12_4.length co69)) (ok := (fun _ => True)) (by (with_reducible repeat (first | apply Kd.R_alloc | apply Kd.R_drewN | apply Kd.R_drew)); exact Kd.R_mono HO_11.out (fun _ hk => ⟨trivial, hk⟩)) hg (.inl rfl)); have n2_ := Am (hp_); have n3_ := Am (blk_grown (g := gb344) (o := .cells #[.slice A0_0 l0_0.length c0_0, .slice A0_1 l0_1.length c0_1, .slice A0_2 l0_2.length c0_2, .int .i64 a0_3] 41 (0, 0)) (kB BK344) hg (Kd.R_ne HO_12.out BK344.out (by decide))); have n4_ := Am ((by rw [hw]; exact below_set (HB.out) GB68.out : Below w.heap.size w w72)); clear HO_10; clear HO_11; clear HO_12; clear BK344; clear HB; have HO_10 := n0_; have HO_11 := n1_; have HO_12 := n2_; have BK344 := n3_; have HB := n4_; clear n0_ n1_ n2_ n3_ n4_; clear hg hw hp_)); try go_wp2_with (first | ((with_reducible refine gate_store (t := 3) (p := 113) rfl ?_); (try (rw [drewN_self wr]; generalize hq_ : World.drewN wr _ = wr; have n0_ := Am (Kd.R_at hq_ HO_10.out); have n1_ := Am (Kd.R_at hq_ HO_11.out); have n2_ := Am (Kd.R_at hq_ HO_12.out); have n3_ := Am (blk_at hq_ BK344.out); have n4_ := Am (below_at hq_ HB.out); clear hq_ HO_10 HO_11 HO_12 BK344 HB; have HO_10 := n0_; have HO_11 := n1_; have HO_12 := n2_; have BK344 := n3_; have HB := n4_; clear n0_ n1_ n2_ n3_ n4_; (try (have HP71 := Kd.R_putg HO_12.out (x14_4 : Int) a0_3)))); refine store_event (t := 3) (p := 113) (v := ?vo_w72) (w1 := (wr.setCell ⟨go68, (x14_4 : Int).toNat, none⟩ (.int .i64 a0_3))) ?hg ?ho ?hn ?hr ?_; (case ho => rfl); (case hg => rfl); (case hn => rfl); (case hr => first | (go_simp; done) | (go_simp; rfl)); intro w72 hw; have hg : wr.grownBy w72 (some go68) := (by rw [hw]; exact HP71.2); have hp_ : Kd.R (Kd.int .i64) 3 w72 w.heap.size (fun k_ => some k_ ≠ (.slice Ao52 x11_3.length co52 : Value).ownBlock) (.slice (some ⟨go68, 0, none⟩) x12_4.length co69) y375 := (by rw [hw, Ny375.out]; exact HP71.1); clear HP71; have n0_ := Am (Kd.R_over' (v := (.slice (some ⟨go68, 0, none⟩) x12_4.length co69)) (kR HO_10) (Kd.R_typed HO_12.out) (by decide) hg); have n1_ := Am (Kd.R_after (v := (.slice (some ⟨go68, 0, none⟩) x12_4.length co69)) (v1 := (.slice (some ⟨go68, 0, none⟩) x12_4.length co69)) (ok := (fun _ => True)) (by (with_reducible repeat (first | apply Kd.R_alloc | apply Kd.R_drewN | apply Kd.R_drew)); exact Kd.R_mono HO_11.out (fun _ hk => ⟨trivial, hk⟩)) hg (.inl rfl)); have n2_ := Am (hp_); have n3_ := Am (blk_grown (g := gb344) (o := .cells #[.slice A0_0 l0_0.length c0_0, .slice A0_1 l0_1.length c0_1, .slice A0_2 l0_2.length c0_2, .int .i64 a0_3] 41 (0, 0)) (kB BK344) hg (Kd.R_ne HO_12.out BK344.out (by decide))); have n4_ := Am ((by rw [hw]; exact below_set (HB.out) GB68.out : Below w.heap.size w w72)); clear HO_10; clear HO_11; clear HO_12; clear BK344; clear HB; have HO_10 := n0_; have HO_11 := n1_; have HO_12 := n2_; have BK344 := n3_; have HB := n4_; clear n0_ n1_ n2_ n3_ n4_; clear hg hw hp_)))
                    go_roundg k4
                    case measure => have := HJ2.out; have := HJ14.out; have := HK3.out; have := HK4.out; omega
                    case rel => exact ⟨(y375), (wrap64 (x14_4 + 1)), rq, H', ⟨by have := HJ2.out; have := HJ14.out; have := HK3.out; have := HK4.out; omega⟩, ⟨kR HO_10⟩, ⟨by (with_reducible repeat (first | apply Kd.R_alloc | apply Kd.R_drewN | apply Kd.R_drew)); exact Kd.R_mono HO_11.out (fun _ hk => hk.2)⟩, ⟨kR HO_12⟩, ⟨kB BK344⟩, ⟨by repeat (first | (with_reducible first | exact HB.out | apply below_alloc | apply pw_below_drewN | apply below_drew1 | refine below_set ?_ GE344.out) | exact HB.out)⟩⟩
                  ·
                   rw [if_neg c63] at H
                   exact absurd H (by simp)
                 ·
                  rw [if_neg c62] at H
                  exact absurd H (by simp)
               ·
                rw [if_neg c54] at H
                have c54b0 : decide (x14_4 < 4) = false := decide_eq_false c54
                clear c54
                have H' := Am H
                clear H
                obtain ⟨Ao73, co73, eo73⟩ := Kd.R_slice HO_12.out
                subst eo73
                go_wp2
                repeat (go_quiet (fail); try go_wp2)
                go_roundg k4
                case measure => have := HJ2.out; have := HJ14.out; have := HK3.out; have := HK4.out; omega
                case rel => exact ⟨(x12_4), (wrap64 (x14_4 + 1)), rq, H', ⟨by have := HJ2.out; have := HJ14.out; have := HK3.out; have := HK4.out; omega⟩, ⟨kR HO_10⟩, ⟨kR HO_11⟩, ⟨kR HO_12⟩, ⟨kB BK344⟩, ⟨by repeat (first | (with_reducible first | exact HB.out | apply below_alloc | apply pw_below_drewN | apply below_drew1 | refine below_set ?_ GE344.out) | exact HB.out)⟩⟩
              ·
               rw [if_neg c53] at H
               have c53b0 : decide (x14_4 < (x12_4.length : Int)) = false := decide_eq_false c53
               clear c53
               replace H := Option.bind_eq_some_iff.mp H
               obtain ⟨⟨t376, t377⟩, A740, H⟩ := H
               replace H : (if t377 = 0 then (some (t376 == t345)) else (none)) = some r := H
               have A74 := Am A740
               clear A740
               by_cases c75 : t377 = 0
               ·
                rw [if_pos c75] at H
                have c75b0 : (t377 == 0) = true := beq_iff_eq.mpr c75
                have c75b1 : (t377 != 0) = false := bne_eq_false_iff_eq.mpr c75
                clear c75
                obtain rfl := Option.some.inj H
                obtain ⟨Ao76, co76, eo76⟩ := Kd.R_slice HO_12.out
                subst eo76
                go_wp2_with (first | (go_at_call 11; (with_reducible refine (expr_Eval.calls k4 _ _ l0_0 _ _ x11_3 _ _ x12_4 t376 t377 _ ?side1 ?side2 ?side3 ?side4 ?side5 ?side6 A74.out).mono ?_); (case side1 => repeat (first | exact (Kd.C_below HR0_0.out HB.out) | (with_reducible refine Kd.C_alloc ?_ _) | (with_reducible refine Kd.C_drewN ?_ _) | (with_reducible refine Kd.C_drew ?_))); (case side2 => exact HC0_0.out); (case side3 => repeat (first | exact (Kd.R_reads' HO_11.out).2.2 | (with_reducible refine Kd.C_alloc ?_ _) | (with_reducible refine Kd.C_drewN ?_ _) | (with_reducible refine Kd.C_drew ?_))); (case side4 => exact (Kd.R_reads' HO_11.out).2.1); (case side5 => repeat (first | exact (Kd.R_reads' HO_12.out).2.2 | (with_reducible refine Kd.C_alloc ?_ _) | (with_reducible refine Kd.C_drewN ?_ _) | (with_reducible refine Kd.C_drew ?_))); (case side6 => exact (Kd.R_reads' HO_12.out).2.1); rintro e w77 ⟨rfl, hb⟩; have n0_ := Am (Kd.R_below (kR HO_10) hb); have n1_ := Am (Kd.R_below (kR HO_11) hb); have n2_ := Am (Kd.R_below (kR HO_12) hb); have n3_ := Am (blk_below (g := gb344) (o := .cells #[.slice A0_0 l0_0.length c0_0, .slice A0_1 l0_1.length c0_1, .slice A0_2 l0_2.length c0_2, .int .i64 a0_3] 41 (0, 0)) (kB BK344) hb); have n4_ := Am (below_step (by repeat (first | (with_reducible first | exact HB.out | apply below_alloc | apply pw_below_drewN | apply below_drew1 | refine below_set ?_ GE344.out) | exact HB.out)) hb); clear HO_10; clear HO_11; clear HO_12; clear BK344; clear HB; have HO_10 := n0_; have HO_11 := n1_; have HO_12 := n2_; have BK344 := n3_; have HB := n4_; clear n0_ n1_ n2_ n3_ n4_; (try clear hb); (try clear hb2); (try clear hk); (try clear hi)))
                repeat (go_quiet (first | (go_at_call 11; (with_reducible refine (expr_Eval.calls k4 _ _ l0_0 _ _ x11_3 _ _ x12_4 t376 t377 _ ?side1 ?side2 ?side3 ?side4 ?side5 ?side6 A74.out).mono ?_); (case side1 => repeat (first | exact (Kd.C_below HR0_0.out HB.out) | (with_reducible refine Kd.C_alloc ?_ _) | (with_reducible refine Kd.C_drewN ?_ _) | (with_reducible refine Kd.C_drew ?_))); (case side2 => exact HC0_0.out); (case side3 => repeat (first | exact (Kd.R_reads' HO_11.out).2.2 | (with_reducible refine Kd.C_alloc ?_ _) | (with_reducible refine Kd.C_drewN ?_ _) | (with_reducible refine Kd.C_drew ?_))); (case side4 => exact (Kd.R_reads' HO_11.out).2.1); (case side5 => repeat (first | exact (Kd.R_reads' HO_12.out).2.2 | (with_reducible refine Kd.C_alloc ?_ _) | (with_reducible refine Kd.C_drewN ?_ _) | (with_reducible refine Kd.C_drew ?_))); (case side6 => exact (Kd.R_reads' HO_12.out).2.1); rintro e w77 ⟨rfl, hb⟩; have n0_ := Am (Kd.R_below (kR HO_10) hb); have n1_ := Am (Kd.R_below (kR HO_11) hb); have n2_ := Am (Kd.R_below (kR HO_12) hb); have n3_ := Am (blk_below (g := gb344) (o := .cells #[.slice A0_0 l0_0.length c0_0, .slice A0_1 l0_1.length c0_1, .slice A0_2 l0_2.length c0_2, .int .i64 a0_3] 41 (0, 0)) (kB BK344) hb); have n4_ := Am (below_step (by repeat (first | (with_reducible first | exact HB.out | apply below_alloc | apply pw_below_drewN | apply below_drew1 | refine below_set ?_ GE344.out) | exact HB.out)) hb); clear HO_10; clear HO_11; clear HO_12; clear BK344; clear HB; have HO_10 := n0_; have HO_11 := n1_; have HO_12 := n2_; have BK344 := n3_; have HB := n4_; clear n0_ n1_ n2_ n3_ n4_; (try clear hb); (try clear hb2); (try clear hk); (try clear hi))); try go_wp2_with (first | (go_at_call 11; (with_reducible refine (expr_Eval.calls k4 _ _ l0_0 _ _ x11_3 _ _ x12_4 t376 t377 _ ?side1 ?side2 ?side3 ?side4 ?side5 ?side6 A74.out).mono ?_); (case side1 => repeat (first | exact (Kd.C_below HR0_0.out HB.out) | (with_reducible refine Kd.C_alloc ?_ _) | (with_reducible refine Kd.C_drewN ?_ _) | (with_reducible refine Kd.C_drew ?_))); (case side2 => exact HC0_0.out); (case side3 => repeat (first | exact (Kd.R_reads' HO_11.out).2.2 | (with_reducible refine Kd.C_alloc ?_ _) | (with_reducible refine Kd.C_drewN ?_ _) | (with_reducible refine Kd.C_drew ?_))); (case side4 => exact (Kd.R_reads' HO_11.out).2.1); (case side5 => repeat (first | exact (Kd.R_reads' HO_12.out).2.2 | (with_reducible refine Kd.C_alloc ?_ _) | (with_reducible refine Kd.C_drewN ?_ _) | (with_reducible refine Kd.C_drew ?_))); (case side6 => exact (Kd.R_reads' HO_12.out).2.1); rintro e w77 ⟨rfl, hb⟩; have n0_ := Am (Kd.R_below (kR HO_10) hb); have n1_ := Am (Kd.R_below (kR HO_11) hb); have n2_ := Am (Kd.R_below (kR HO_12) hb); have n3_ := Am (blk_below (g := gb344) (o := .cells #[.slice A0_0 l0_0.length c0_0, .slice A0_1 l0_1.length c0_1, .slice A0_2 l0_2.length c0_2, .int .i64 a0_3] 41 (0, 0)) (kB BK344) hb); have n4_ := Am (below_step (by repeat (first | (with_reducible first | exact HB.out | apply below_alloc | apply pw_below_drewN | apply below_drew1 | refine below_set ?_ GE344.out) | exact HB.out)) hb); clear HO_10; clear HO_11; clear HO_12; clear BK344; clear HB; have HO_10 := n0_; have HO_11 := n1_; have HO_12 := n2_; have BK344 := n3_; have HB := n4_; clear n0_ n1_ n2_ n3_ n4_; (try clear hb); (try clear hb2); (try clear hk); (try clear hi))))
                go_ret
                exact ⟨xq, by repeat (first | (with_reducible first | exact HB.out | apply below_alloc | apply pw_below_drewN | apply below_drew1 | refine below_set ?_ GE344.out) | exact HB.out)⟩
               ·
                rw [if_neg c75] at H
                exact absurd H (by simp)
        ·
         rw [if_neg c23] at H
         exact absurd H (by simp)
       ·
        rw [if_neg c22] at H
        exact absurd H (by simp)

end Go.Proofs.Ythhnecbfcpmpbaa.PA
