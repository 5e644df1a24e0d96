-- Written by a program (wip/tools/gprint.py: a patched copy of the kit's print) and by hand, for this claim
import Derived.Test.YthhnecbfcpmpbaaPAx0
import Derived.Test.YthhnecbfcpmpbaaPAx2
import Derived.Test.YthhnecbfcpmpbaaPAx3
import Derived.Test.YthhnecbfcpmpbaaPAx7
namespace Go.Proofs.Ythhnecbfcpmpbaa.PA
open Go.RowKit Go.Proofs.YthhnecbfcpmpbaaW.PrintWords Go.Proofs.YthhnecbfcpmpbaaW.PrintLast Go.Proofs.YthhnecbfcpmpbaaW.PrintMore
attribute [local go_sem] max2_int min2_int max_two min_two max_three min_three max_four min_four   -- for this text's walks alone
set_option linter.unusedVariables false
set_option linter.unusedSimpArgs false

/-! ### surmiseref03_Eval: function 12 -/
mutual
def surmiseref03_Eval.l0 : Nat → List (S45) → List Int → List Int → Int → Option (Int × Int)
 | 0, _, _, _, _ => none
 | k + 1, x0, x1, x2, x10 => if x10 < (x1.length : Int) then (if 0 ≤ x10 then ((surmiseref03_Value.f (rd x1 x10)).bind fun t247 => (if t247 = true then (surmiseref03_Eval.l0 k x0 x1 x2 (wrap64 (x10 + 1))) else (some (0, 2)))) else (none)) else (surmiseref03_Eval.l1 k x0 x1 x2 0)
def surmiseref03_Eval.l1 : Nat → List (S45) → List Int → List Int → Int → Option (Int × Int)
 | 0, _, _, _, _ => none
 | k + 1, x0, x1, x2, x11 => if x11 < (x2.length : Int) then (if 0 ≤ x11 then ((surmiseref03_Value.f (rd x2 x11)).bind fun t249 => (if t249 = true then (surmiseref03_Eval.l1 k x0 x1 x2 (wrap64 (x11 + 1))) else (some (0, 2)))) else (none)) else (surmiseref03_Eval.l2 k x0 x1 x2 ([] : List Int) 0)
def surmiseref03_Eval.l2 : Nat → List (S45) → List Int → List Int → List Int → Int → Option (Int × Int)
 | 0, _, _, _, _, _ => none
 | k + 1, x0, x1, x2, x12, x13 => if x13 < (x0.length : Int) then (if 0 ≤ x13 then (if ((rd_T45 x0 x13).f0) = 2 then (if 0 ≤ ((rd_T45 x0 x13).f1) then (if ((rd_T45 x0 x13).f1) < (x1.length : Int) then (surmiseref03_Eval.j3 k x0 x1 x2 x12 x13 (rd x1 ((rd_T45 x0 x13).f1)) true ((rd_T45 x0 x13).f0) ((rd_T45 x0 x13).f1)) else (none)) else (none)) else (surmiseref03_Eval.j3 k x0 x1 x2 x12 x13 ((rd_T45 x0 x13).f1) true ((rd_T45 x0 x13).f0) ((rd_T45 x0 x13).f1))) else (none)) else (if 0 < (x12.length : Int) then (some (rd x12 0, 0)) else (none))
def surmiseref03_Eval.j3 : Nat → List (S45) → List Int → List Int → List Int → Int → Int → Bool → Int → Int → Option (Int × Int)
 | 0, _, _, _, _, _, _, _, _, _ => none
 | k + 1, x0, x1, x2, x12, x13, x15, x16, x253000, x253001 => if x253000 = 3 then (if 0 ≤ x253001 then (if x253001 < (x2.length : Int) then (surmiseref03_Eval.j4 k x0 x1 x2 x12 x13 (rd x2 x253001) x16 x253000 x253001) else (none)) else (none)) else (surmiseref03_Eval.j4 k x0 x1 x2 x12 x13 x15 x16 x253000 x253001)
def surmiseref03_Eval.j4 : Nat → List (S45) → List Int → List Int → List Int → Int → Int → Bool → Int → Int → Option (Int × Int)
 | 0, _, _, _, _, _, _, _, _, _ => none
 | k + 1, x0, x1, x2, x12, x13, x15, x16, x253000, x253001 => (surmiseref03_Takes.f x253000).bind fun t255 => (if t255 > 0 then (if 0 ≤ (wrap64 ((x12.length : Int) - t255)) then (if (wrap64 ((x12.length : Int) - t255)) ≤ (x12.length : Int) then ((surmiseref03_Made.f x253000 (x12.drop ((wrap64 ((x12.length : Int) - t255)) : Int).toNat)).bind fun bt260 => ((some (x12.take ((wrap64 ((x12.length : Int) - t255)) : Int).toNat : List Int)).bind fun y262 => (if bt260.2 = true then ((some (([] : List Int) : List Int)).bind fun y265 => (if y265.length + y262.length < 17592186044416 then ((some (y265 ++ y262 : List Int)).bind fun y268 => (if y268.length < 17592186044416 then (surmiseref03_Eval.l2 k x0 x1 x2 (y268 ++ [bt260.1]) (wrap64 (x13 + 1))) else (none))) else (none))) else (some (0, 3))))) else (none)) else (none)) else (if x16 = true then ((some (([] : List Int) : List Int)).bind fun y274 => (if y274.length + x12.length < 17592186044416 then ((some (y274 ++ x12 : List Int)).bind fun y277 => (if y277.length < 17592186044416 then (surmiseref03_Eval.l2 k x0 x1 x2 (y277 ++ [x15]) (wrap64 (x13 + 1))) else (none))) else (none))) else (some (0, 3))))
end
def surmiseref03_Eval.f (k : Nat) (l0 : List (S45)) (l1 : List Int) (l2 : List Int) : Option (Int × Int) := (surmiseref03_Check.f k l0 (l1.length : Int) (l2.length : Int)).bind fun bt244 => (if bt244.2 = 0 then (surmiseref03_Eval.l0 k l0 l1 l2 0) else (some (0, bt244.2)))
theorem surmiseref03_Eval.mono_l : ∀ k, (∀ y0 y1 y2 y3, LeO (surmiseref03_Eval.l0 k y0 y1 y2 y3) (surmiseref03_Eval.l0 (k + 1) y0 y1 y2 y3)) ∧ (∀ y0 y1 y2 y3, LeO (surmiseref03_Eval.l1 k y0 y1 y2 y3) (surmiseref03_Eval.l1 (k + 1) y0 y1 y2 y3)) ∧ (∀ y0 y1 y2 y3 y4, LeO (surmiseref03_Eval.l2 k y0 y1 y2 y3 y4) (surmiseref03_Eval.l2 (k + 1) y0 y1 y2 y3 y4)) ∧ (∀ y0 y1 y2 y3 y4 y5 y6 y7 y8, LeO (surmiseref03_Eval.j3 k y0 y1 y2 y3 y4 y5 y6 y7 y8) (surmiseref03_Eval.j3 (k + 1) y0 y1 y2 y3 y4 y5 y6 y7 y8)) ∧ (∀ y0 y1 y2 y3 y4 y5 y6 y7 y8, LeO (surmiseref03_Eval.j4 k y0 y1 y2 y3 y4 y5 y6 y7 y8) (surmiseref03_Eval.j4 (k + 1) y0 y1 y2 y3 y4 y5 y6 y7 y8))
 | 0 => ⟨fun _ _ _ _ r h => by simp [surmiseref03_Eval.l0] at h, fun _ _ _ _ r h => by simp [surmiseref03_Eval.l1] at h, fun _ _ _ _ _ r h => by simp [surmiseref03_Eval.l2] at h, fun _ _ _ _ _ _ _ _ _ r h => by simp [surmiseref03_Eval.j3] at h, fun _ _ _ _ _ _ _ _ _ r h => by simp [surmiseref03_Eval.j4] at h⟩
 | k + 1 => by
  obtain ⟨ih0, ih1, ih2, ih3, ih4⟩ := surmiseref03_Eval.mono_l k
  refine ⟨?_, ?_, ?_, ?_, ?_⟩
  ·
   intro y0 y1 y2 y3
   unfold surmiseref03_Eval.l0
   repeat' first
   | (with_reducible exact ih0 _ _ _ _)
   | (with_reducible exact ih1 _ _ _ _)
   | (with_reducible exact ih2 _ _ _ _ _)
   | (with_reducible exact ih3 _ _ _ _ _ _ _ _ _)
   | (with_reducible exact ih4 _ _ _ _ _ _ _ _ _)
   | (with_reducible exact surmiseref03_Check.mono _ _ _ _)
   | (with_reducible exact LeO.refl _)
   | (with_reducible exact LeO.none _)
   | (with_reducible refine LeO.ite ?_ ?_)
   | (with_reducible refine LeO.bind ?_ (fun _ => ?_))
   | exact ih0 _ _ _ _
   | exact ih1 _ _ _ _
   | exact ih2 _ _ _ _ _
   | exact ih3 _ _ _ _ _ _ _ _ _
   | exact ih4 _ _ _ _ _ _ _ _ _
   | exact surmiseref03_Check.mono _ _ _ _
   | exact LeO.none _
   | refine LeO.ite ?_ ?_
   | refine LeO.bind ?_ (fun _ => ?_)
  ·
   intro y0 y1 y2 y3
   unfold surmiseref03_Eval.l1
   repeat' first
   | (with_reducible exact ih0 _ _ _ _)
   | (with_reducible exact ih1 _ _ _ _)
   | (with_reducible exact ih2 _ _ _ _ _)
   | (with_reducible exact ih3 _ _ _ _ _ _ _ _ _)
   | (with_reducible exact ih4 _ _ _ _ _ _ _ _ _)
   | (with_reducible exact surmiseref03_Check.mono _ _ _ _)
   | (with_reducible exact LeO.refl _)
   | (with_reducible exact LeO.none _)
   | (with_reducible refine LeO.ite ?_ ?_)
   | (with_reducible refine LeO.bind ?_ (fun _ => ?_))
   | exact ih0 _ _ _ _
   | exact ih1 _ _ _ _
   | exact ih2 _ _ _ _ _
   | exact ih3 _ _ _ _ _ _ _ _ _
   | exact ih4 _ _ _ _ _ _ _ _ _
   | exact surmiseref03_Check.mono _ _ _ _
   | exact LeO.none _
   | refine LeO.ite ?_ ?_
   | refine LeO.bind ?_ (fun _ => ?_)
  ·
   intro y0 y1 y2 y3 y4
   unfold surmiseref03_Eval.l2
   repeat' first
   | (with_reducible exact ih0 _ _ _ _)
   | (with_reducible exact ih1 _ _ _ _)
   | (with_reducible exact ih2 _ _ _ _ _)
   | (with_reducible exact ih3 _ _ _ _ _ _ _ _ _)
   | (with_reducible exact ih4 _ _ _ _ _ _ _ _ _)
   | (with_reducible exact surmiseref03_Check.mono _ _ _ _)
   | (with_reducible exact LeO.refl _)
   | (with_reducible exact LeO.none _)
   | (with_reducible refine LeO.ite ?_ ?_)
   | (with_reducible refine LeO.bind ?_ (fun _ => ?_))
   | exact ih0 _ _ _ _
   | exact ih1 _ _ _ _
   | exact ih2 _ _ _ _ _
   | exact ih3 _ _ _ _ _ _ _ _ _
   | exact ih4 _ _ _ _ _ _ _ _ _
   | exact surmiseref03_Check.mono _ _ _ _
   | exact LeO.none _
   | refine LeO.ite ?_ ?_
   | refine LeO.bind ?_ (fun _ => ?_)
  ·
   intro y0 y1 y2 y3 y4 y5 y6 y7 y8
   unfold surmiseref03_Eval.j3
   repeat' first
   | (with_reducible exact ih0 _ _ _ _)
   | (with_reducible exact ih1 _ _ _ _)
   | (with_reducible exact ih2 _ _ _ _ _)
   | (with_reducible exact ih3 _ _ _ _ _ _ _ _ _)
   | (with_reducible exact ih4 _ _ _ _ _ _ _ _ _)
   | (with_reducible exact surmiseref03_Check.mono _ _ _ _)
   | (with_reducible exact LeO.refl _)
   | (with_reducible exact LeO.none _)
   | (with_reducible refine LeO.ite ?_ ?_)
   | (with_reducible refine LeO.bind ?_ (fun _ => ?_))
   | exact ih0 _ _ _ _
   | exact ih1 _ _ _ _
   | exact ih2 _ _ _ _ _
   | exact ih3 _ _ _ _ _ _ _ _ _
   | exact ih4 _ _ _ _ _ _ _ _ _
   | exact surmiseref03_Check.mono _ _ _ _
   | exact LeO.none _
   | refine LeO.ite ?_ ?_
   | refine LeO.bind ?_ (fun _ => ?_)
  ·
   intro y0 y1 y2 y3 y4 y5 y6 y7 y8
   unfold surmiseref03_Eval.j4
   repeat' first
   | (with_reducible exact ih0 _ _ _ _)
   | (with_reducible exact ih1 _ _ _ _)
   | (with_reducible exact ih2 _ _ _ _ _)
   | (with_reducible exact ih3 _ _ _ _ _ _ _ _ _)
   | (with_reducible exact ih4 _ _ _ _ _ _ _ _ _)
   | (with_reducible exact surmiseref03_Check.mono _ _ _ _)
   | (with_reducible exact LeO.refl _)
   | (with_reducible exact LeO.none _)
   | (with_reducible refine LeO.ite ?_ ?_)
   | (with_reducible refine LeO.bind ?_ (fun _ => ?_))
   | exact ih0 _ _ _ _
   | exact ih1 _ _ _ _
   | exact ih2 _ _ _ _ _
   | exact ih3 _ _ _ _ _ _ _ _ _
   | exact ih4 _ _ _ _ _ _ _ _ _
   | exact surmiseref03_Check.mono _ _ _ _
   | exact LeO.none _
   | refine LeO.ite ?_ ?_
   | refine LeO.bind ?_ (fun _ => ?_)
theorem surmiseref03_Eval.mono : ∀ a0 a1 a2 k, LeO (surmiseref03_Eval.f k a0 a1 a2) (surmiseref03_Eval.f (k + 1) a0 a1 a2) := by
 intro a0 a1 a2 k
 obtain ⟨ih0, ih1, ih2, ih3, ih4⟩ := surmiseref03_Eval.mono_l k
 unfold surmiseref03_Eval.f
 repeat' first
   | (with_reducible exact ih0 _ _ _ _)
   | (with_reducible exact ih1 _ _ _ _)
   | (with_reducible exact ih2 _ _ _ _ _)
   | (with_reducible exact ih3 _ _ _ _ _ _ _ _ _)
   | (with_reducible exact ih4 _ _ _ _ _ _ _ _ _)
   | (with_reducible exact surmiseref03_Check.mono _ _ _ _)
   | (with_reducible exact LeO.refl _)
   | (with_reducible exact LeO.none _)
   | (with_reducible refine LeO.ite ?_ ?_)
   | (with_reducible refine LeO.bind ?_ (fun _ => ?_))
   | exact ih0 _ _ _ _
   | exact ih1 _ _ _ _
   | exact ih2 _ _ _ _ _
   | exact ih3 _ _ _ _ _ _ _ _ _
   | exact ih4 _ _ _ _ _ _ _ _ _
   | exact surmiseref03_Check.mono _ _ _ _
   | exact LeO.none _
   | refine LeO.ite ?_ ?_
   | refine LeO.bind ?_ (fun _ => ?_)
def surmiseref03_Eval.T26 : Bool × List (List Nat × List Nat) := (true, [([], []), ([0], [0]), ([], []), ([], []), ([3], [3]), ([], []), ([4, 5], [4, 5]), ([2, 6], [2, 6]), ([1, 7], [1, 7]), ([8], [8]), ([9], [9]), ([9], [9]), ([10, 8, 0, 1, 2, 3, 4, 5, 6, 7, 8, 9, 10], [10]), ([11, 12, 0, 1, 2, 3, 4, 5, 6, 7, 8, 9, 10, 11, 12], [11])])
def surmiseref03_Eval.B26 : List Nat := [0, 1, 0, 0, 8, 0, 56, 124, 255, 511, 1023, 1023, 2047, 8191]
theorem surmiseref03_Eval.tab26 : rtab .any (opsOf Try.f12 26) = surmiseref03_Eval.T26 := by kernel_rfl
theorem surmiseref03_Eval.bits26 : waitsOk surmiseref03_Eval.T26.2 surmiseref03_Eval.B26 = true := by kernel_rfl
set_option maxHeartbeats 8000000 in
set_option maxRecDepth 100000 in
theorem surmiseref03_Eval.calls (k : Nat) (A0 : Option Addr) (c0 : Nat) (l0 : List (S45)) (A1 : Option Addr) (c1 : Nat) (l1 : List Int) (A2 : Option Addr) (c2 : Nat) (l2 : List Int) (r1 : Int) (r2 : Int) (w : World) (hr0 : Kd.C k45 w A0 l0.length l0) (hc0 : l0.length ≤ c0) (hr1 : Kd.C (Kd.int .i64) w A1 l1.length l1) (hc1 : l1.length ≤ c1) (hr2 : Kd.C (Kd.int .i64) w A2 l2.length l2) (hc2 : l2.length ≤ c2) (h : surmiseref03_Eval.f k l0 l1 l2 = some (r1, r2)) :
  Calls Try.prog 12 #[.slice A0 l0.length c0, .slice A1 l1.length c1, .slice A2 l2.length c2] w fun e w' => e = .returned (.tuple #[.int .i64 r1, .int .i64 r2]) ∧ Below w.heap.size w w' := by
 have hu45 := Try.underlying45
 have HR0 := Am hr0
 have HC0 := Am hc0
 clear hr0 hc0
 have HR1 := Am hr1
 have HC1 := Am hc1
 clear hr1 hc1
 have HR2 := Am hr2
 have HC2 := Am hc2
 clear hr2 hc2
 have HB := Am (Below.refl w.heap.size w)
 have H : ((surmiseref03_Check.f k l0 (l1.length : Int) (l2.length : Int)).bind fun bt244 => (if bt244.2 = 0 then (surmiseref03_Eval.l0 k l0 l1 l2 0) else (some (0, bt244.2)))) = some (r1, r2) := h
 clear h
 replace H := Option.bind_eq_some_iff.mp H
 obtain ⟨⟨t244, t245⟩, A40, H⟩ := H
 replace H : (if t245 = 0 then (surmiseref03_Eval.l0 k l0 l1 l2 0) else (some (0, t245))) = some (r1, r2) := H
 have A4 := Am A40
 clear A40
 by_cases c5 : t245 = 0
 ·
  rw [if_pos c5] at H
  have c5b0 : (t245 == 0) = true := beq_iff_eq.mpr c5
  have c5b1 : (t245 != 0) = false := bne_eq_false_iff_eq.mpr c5
  clear c5
  have H' := Am H
  clear H
  go_enter Try.func12, Try.ntmps12
  go_wp2_with (first | ((with_reducible refine gate_callee (f := 9) rfl ?_); refine goesL_ (some 24) rfl rfl Try.func9 (by kernel_rfl) rfl #[.slice A0 l0.length c0, .int .i64 (l1.length : Int), .int .i64 (l2.length : Int)] rfl aq ?_; (with_reducible refine (surmiseref03_Check.calls k _ _ l0 (l1.length : Int) (l2.length : Int) t244 t245 _ ?side1 ?side2 A4.out).mono ?_); (case side1 => repeat (first | exact HR0.out | (with_reducible refine Kd.C_alloc ?_ _) | (with_reducible refine Kd.C_drewN ?_ _) | (with_reducible refine Kd.C_drew ?_))); (case side2 => exact HC0.out); rintro e w6 ⟨rfl, hb⟩; refine ⟨_, rfl, ?_⟩; have n0_ := Am (below_step (bl) hb); clear HB; have HB := n0_; clear n0_; (try clear hb); (try clear hb2); (try clear hk); (try clear hi)))
  go_loopg [10] k (fun kq v10 w' => ∃ (x10_1 : Int), v10 = .int .i64 x10_1 ∧ Aside0 (surmiseref03_Eval.l0 kq l0 l1 l2 x10_1 = some (r1, r2)) ∧ Aside0 (kq ≤ k) ∧ Aside0 (Below w.heap.size w w'))
  case atStart => exact ⟨(0), rq, H', ⟨Nat.le_refl _⟩, ⟨bl⟩⟩
  case round =>
   clear H'
   try clear c1
   try clear c2
   try clear p2
   try clear c5
   try clear c5b0
   try clear c5b1
   obtain ⟨x10_1, rfl, HA, HK1, HB⟩ := hrel
   cases gk with
   | zero => exact absurd HA.out (by simp [surmiseref03_Eval.l0])
   | succ k1 =>
    have H := HA.out
    clear HA
    simp only [surmiseref03_Eval.l0] at H
    by_cases c7 : x10_1 < (l1.length : Int)
    ·
     rw [if_pos c7] at H
     have c7b0 : decide (x10_1 < (l1.length : Int)) = true := decide_eq_true c7
     clear c7
     by_cases c8 : 0 ≤ x10_1
     ·
      rw [if_pos c8] at H
      have c8b0 : decide (0 ≤ x10_1) = true := decide_eq_true c8
      clear c8
      replace H := Option.bind_eq_some_iff.mp H
      obtain ⟨t247, A90, H⟩ := H
      replace H : (if t247 = true then (surmiseref03_Eval.l0 k1 l0 l1 l2 (wrap64 (x10_1 + 1))) else (some (0, 2))) = some (r1, r2) := H
      have A9 := Am A90
      clear A90
      by_cases c10 : t247 = true
      ·
       subst c10
       have H1 : (surmiseref03_Eval.l0 k1 l0 l1 l2 (wrap64 (x10_1 + 1))) = some (r1, r2) := by rw [if_pos rfl] at H; exact H
       clear H
       have H := H1
       clear H1
       have H' := Am H
       clear H
       have p246 : 0 ≤ (x10_1 : Int) := of_decide_eq_true az
       have q246 : x10_1 < (l1.length : Int) := of_decide_eq_true az
       obtain ⟨ad246, e246, hx246_0⟩ := Kd.at_int HR1.out x10_1 p246 q246
       cases e246
       replace hx246_0 := (HB.out.cell (World.block_lt_of_cell? w _ hx246_0)).trans hx246_0
       replace p246 := eq_true p246
       replace q246 := eq_true q246
       go_wp2_with (first | ((with_reducible refine gate_callee (f := 20) rfl ?_); refine goesL_ (some 40) rfl rfl Try.func20 (by kernel_rfl) rfl #[.int .i64 (rd l1 x10_1)] rfl aq ?_; (with_reducible refine (surmiseref03_Value.calls (rd l1 x10_1) true _ A9.out).mono ?_); rintro e w' ⟨rfl, ⟨nd, rfl⟩⟩; refine ⟨_, rfl, ?_⟩))
       go_roundg k1
       case measure => have := HK1.out; omega
       case rel => exact ⟨(wrap64 (x10_1 + 1)), rq, H', ⟨by have := HK1.out; omega⟩, ⟨bl⟩⟩
      ·
       replace c10 := Bool.eq_false_iff.mpr c10
       subst c10
       have H1 : (some (0, 2)) = some (r1, r2) := by rw [if_neg (show ¬ (false = true) by decide)] at H; exact H
       clear H
       have H := H1
       clear H1
       simp only [Option.some.injEq, Prod.mk.injEq] at H
       obtain ⟨rfl, rfl⟩ := H
       have p246 : 0 ≤ (x10_1 : Int) := of_decide_eq_true az
       have q246 : x10_1 < (l1.length : Int) := of_decide_eq_true az
       obtain ⟨ad246, e246, hx246_0⟩ := Kd.at_int HR1.out x10_1 p246 q246
       cases e246
       replace hx246_0 := (HB.out.cell (World.block_lt_of_cell? w _ hx246_0)).trans hx246_0
       replace p246 := eq_true p246
       replace q246 := eq_true q246
       go_wp2_with (first | ((with_reducible refine gate_callee (f := 20) rfl ?_); refine goesL_ (some 40) rfl rfl Try.func20 (by kernel_rfl) rfl #[.int .i64 (rd l1 x10_1)] rfl aq ?_; (with_reducible refine (surmiseref03_Value.calls (rd l1 x10_1) false _ A9.out).mono ?_); rintro e w' ⟨rfl, ⟨nd, rfl⟩⟩; refine ⟨_, rfl, ?_⟩))
       go_ret2
       exact ⟨xq, bl⟩
     ·
      rw [if_neg c8] at H
      exact absurd H (by simp)
    ·
     rw [if_neg c7] at H
     have c7b0 : decide (x10_1 < (l1.length : Int)) = false := decide_eq_false c7
     clear c7
     have H' := Am H
     clear H
     go_wp2
     go_loopg [11] k1 (fun kq v11 w' => ∃ (x11_2 : Int), v11 = .int .i64 x11_2 ∧ Aside0 (surmiseref03_Eval.l1 kq l0 l1 l2 x11_2 = some (r1, r2)) ∧ Aside0 (kq ≤ k1) ∧ Aside0 (Below w.heap.size w w'))
     case atStart => exact ⟨(0), rq, H', ⟨Nat.le_refl _⟩, ⟨bl⟩⟩
     case round =>
      clear H'
      try clear c1
      try clear c2
      try clear p2
      try clear q2
      try clear hx2
      try clear c5
      try clear c5b0
      try clear c5b1
      try clear p6
      try clear c7
      try clear c7b0
      try clear c8
      try clear c8b0
      try clear c9
      try clear c10
      try clear hx246_0
      try clear p2
      try clear p246
      try clear q246
      obtain ⟨x11_2, rfl, HA, HK2, HB⟩ := hrel
      cases gk with
      | zero => exact absurd HA.out (by simp [surmiseref03_Eval.l1])
      | succ k2 =>
       have H := HA.out
       clear HA
       simp only [surmiseref03_Eval.l1] at H
       by_cases c11 : x11_2 < (l2.length : Int)
       ·
        rw [if_pos c11] at H
        have c11b0 : decide (x11_2 < (l2.length : Int)) = true := decide_eq_true c11
        clear c11
        by_cases c12 : 0 ≤ x11_2
        ·
         rw [if_pos c12] at H
         have c12b0 : decide (0 ≤ x11_2) = true := decide_eq_true c12
         clear c12
         replace H := Option.bind_eq_some_iff.mp H
         obtain ⟨t249, A130, H⟩ := H
         replace H : (if t249 = true then (surmiseref03_Eval.l1 k2 l0 l1 l2 (wrap64 (x11_2 + 1))) else (some (0, 2))) = some (r1, r2) := H
         have A13 := Am A130
         clear A130
         by_cases c14 : t249 = true
         ·
          subst c14
          have H1 : (surmiseref03_Eval.l1 k2 l0 l1 l2 (wrap64 (x11_2 + 1))) = some (r1, r2) := by rw [if_pos rfl] at H; exact H
          clear H
          have H := H1
          clear H1
          have H' := Am H
          clear H
          have p248 : 0 ≤ (x11_2 : Int) := of_decide_eq_true az
          have q248 : x11_2 < (l2.length : Int) := of_decide_eq_true az
          obtain ⟨ad248, e248, hx248_0⟩ := Kd.at_int HR2.out x11_2 p248 q248
          cases e248
          replace hx248_0 := (HB.out.cell (World.block_lt_of_cell? w _ hx248_0)).trans hx248_0
          replace p248 := eq_true p248
          replace q248 := eq_true q248
          go_wp2_with (first | ((with_reducible refine gate_callee (f := 20) rfl ?_); refine goesL_ (some 52) rfl rfl Try.func20 (by kernel_rfl) rfl #[.int .i64 (rd l2 x11_2)] rfl aq ?_; (with_reducible refine (surmiseref03_Value.calls (rd l2 x11_2) true _ A13.out).mono ?_); rintro e w' ⟨rfl, ⟨nd, rfl⟩⟩; refine ⟨_, rfl, ?_⟩))
          go_roundg k2
          case measure => have := HK1.out; have := HK2.out; omega
          case rel => exact ⟨(wrap64 (x11_2 + 1)), rq, H', ⟨by have := HK1.out; have := HK2.out; omega⟩, ⟨bl⟩⟩
         ·
          replace c14 := Bool.eq_false_iff.mpr c14
          subst c14
          have H1 : (some (0, 2)) = some (r1, r2) := by rw [if_neg (show ¬ (false = true) by decide)] at H; exact H
          clear H
          have H := H1
          clear H1
          simp only [Option.some.injEq, Prod.mk.injEq] at H
          obtain ⟨rfl, rfl⟩ := H
          have p248 : 0 ≤ (x11_2 : Int) := of_decide_eq_true az
          have q248 : x11_2 < (l2.length : Int) := of_decide_eq_true az
          obtain ⟨ad248, e248, hx248_0⟩ := Kd.at_int HR2.out x11_2 p248 q248
          cases e248
          replace hx248_0 := (HB.out.cell (World.block_lt_of_cell? w _ hx248_0)).trans hx248_0
          replace p248 := eq_true p248
          replace q248 := eq_true q248
          go_wp2_with (first | ((with_reducible refine gate_callee (f := 20) rfl ?_); refine goesL_ (some 52) rfl rfl Try.func20 (by kernel_rfl) rfl #[.int .i64 (rd l2 x11_2)] rfl aq ?_; (with_reducible refine (surmiseref03_Value.calls (rd l2 x11_2) false _ A13.out).mono ?_); rintro e w' ⟨rfl, ⟨nd, rfl⟩⟩; refine ⟨_, rfl, ?_⟩))
          go_ret2
          exact ⟨xq, bl⟩
        ·
         rw [if_neg c12] at H
         exact absurd H (by simp)
       ·
        rw [if_neg c11] at H
        have c11b0 : decide (x11_2 < (l2.length : Int)) = false := decide_eq_false c11
        clear c11
        have H' := Am H
        clear H
        go_wp2
        go_loopg [12, 13] k2 (fun kq v12 v13 w' => ∃ (x12_3 : List Int) (x13_3 : Int), v13 = .int .i64 x13_3 ∧ Aside0 (surmiseref03_Eval.l2 kq l0 l1 l2 x12_3 x13_3 = some (r1, r2)) ∧ Aside0 (kq ≤ k2) ∧ Aside0 (Kd.R (Kd.int .i64) 3 w' w.heap.size (fun _ => True) v12 x12_3) ∧ Aside0 (Below w.heap.size w w'))
        case atStart => exact ⟨(([] : List Int)), (0), rq, H', ⟨Nat.le_refl _⟩, ⟨by first | exact Kd.R_nil _ _ _ _ _ | exact Kd.N_nil _ _ _ _ _ | exact Kd.V_nil _ _ _ _ _ | exact Kd.Q_nil _ _ _ _ _ | exact Kd.S_nil _ _ _ _ _⟩, ⟨bl⟩⟩
        case round =>
         clear H'
         try clear c1
         try clear c2
         try clear p2
         try clear q2
         try clear hx2
         try clear c5
         try clear c5b0
         try clear c5b1
         try clear p6
         try clear c7
         try clear c7b0
         try clear c8
         try clear c8b0
         try clear c9
         try clear c10
         try clear c11
         try clear c11b0
         try clear c12
         try clear c12b0
         try clear c14
         try clear hx246_0
         try clear hx248_0
         try clear p2
         try clear p246
         try clear p248
         try clear p6
         try clear q2
         try clear q246
         try clear q248
         obtain ⟨x12_3, x13_3, rfl, HA, HK3, HO_12, HB⟩ := hrel
         cases gk with
         | zero => exact absurd HA.out (by simp [surmiseref03_Eval.l2])
         | succ k3 =>
          have H := HA.out
          clear HA
          simp only [surmiseref03_Eval.l2] at H
          by_cases c15 : x13_3 < (l0.length : Int)
          ·
           rw [if_pos c15] at H
           have c15b0 : decide (x13_3 < (l0.length : Int)) = true := decide_eq_true c15
           clear c15
           by_cases c16 : 0 ≤ x13_3
           ·
            rw [if_pos c16] at H
            have c16b0 : decide (0 ≤ x13_3) = true := decide_eq_true c16
            clear c16
            have HC17 := Am H
            clear H
            have p251 : 0 ≤ (x13_3 : Int) := of_decide_eq_true az
            have q251 : x13_3 < (l0.length : Int) := of_decide_eq_true az
            obtain ⟨ad251, e251, hx251_0, hx251_1⟩ := at_T45 HR0.out x13_3 p251 q251
            cases e251
            replace hx251_0 := (HB.out.cell (World.block_lt_of_cell? w _ hx251_0)).trans hx251_0
            replace hx251_1 := (HB.out.cell (World.block_lt_of_cell? w _ hx251_1)).trans hx251_1
            replace p251 := eq_true p251
            replace q251 := eq_true q251
            go_upto_if 68 with (first | ((with_reducible refine gate_dst (N := 14) rfl ?_); refine box_event ?hg (N := 14) ?hd (cs := #[.int .i64 0, .int .i64 0]) (t := 45) ?hr ?_; (case hd => rfl); (case hg => rfl); (case hr => first | (go_simp; done) | (go_simp; rfl)); intro gb252 hg w18 hbox hb; have n0_ := Am (Kd.R_below (kR HO_12) hb); have n1_ := Am (below_step (bl) hb); have n2_ := Am (hbox); have n3_ := Am ((by rw [hg]; exact (below_size (bl)) : w.heap.size ≤ gb252)); have n4_ := Am ((by rw [hg]; exact (below_size (bl)) : w.heap.size ≤ gb252)); clear HO_12; clear HB; have HO_12 := n0_; have HB := n1_; have BK252 := n2_; have GW252 := n3_; have GE252 := n4_; clear n0_ n1_ n2_ n3_ n4_; clear hb hbox hg; have hcz19_0 : w18.cell? ⟨gb252, 0, none⟩ = some (.int .i64 0) := (blk_cell BK252.out 0).trans rfl; have hcz19_1 : w18.cell? ⟨gb252, 1, none⟩ = some (.int .i64 0) := (blk_cell BK252.out 1).trans rfl; have hfz19_0 := blk_frozen BK252.out 0; have hfz19_1 := blk_frozen BK252.out 1))
            (try simp only [Act.put, List.setIfInBounds_toArray, List.set_cons_zero, List.set_cons_succ])
            go_cut [15] (fun v15 wc => ∃ (kq : Nat) (x15_16 : Int), v15 = .int .i64 x15_16 ∧ Aside0 (surmiseref03_Eval.j3 kq l0 l1 l2 x12_3 x13_3 x15_16 true ((rd_T45 l0 x13_3).f0) ((rd_T45 l0 x13_3).f1) = some (r1, r2)) ∧ Aside0 (kq ≤ k3) ∧ Aside0 (Kd.R (Kd.int .i64) 3 wc w.heap.size (fun _ => True) u12 x12_3) ∧ Aside0 (wc.heap[gb252]? = some (.cells #[.int .i64 ((rd_T45 l0 x13_3).f0), .int .i64 ((rd_T45 l0 x13_3).f1)] 45 (0, 0))) ∧ Aside0 (Below w.heap.size w wc))
            case first =>
             have H := HC17.out
             clear HC17
             by_cases c20 : ((rd_T45 l0 x13_3).f0) = 2
             ·
              rw [if_pos c20] at H
              have c20b0 : (((rd_T45 l0 x13_3).f0) == 2) = true := beq_iff_eq.mpr c20
              have c20b1 : (((rd_T45 l0 x13_3).f0) != 2) = false := bne_eq_false_iff_eq.mpr c20
              clear c20
              (first | rw [c20b0] | (simp only [i64_w, i32_w]; rw [c20b0]) | skip)
              by_cases c21 : 0 ≤ ((rd_T45 l0 x13_3).f1)
              ·
               rw [if_pos c21] at H
               have c21b0 : decide (0 ≤ ((rd_T45 l0 x13_3).f1)) = true := decide_eq_true c21
               clear c21
               by_cases c22 : ((rd_T45 l0 x13_3).f1) < (l1.length : Int)
               ·
                rw [if_pos c22] at H
                have c22b0 : decide (((rd_T45 l0 x13_3).f1) < (l1.length : Int)) = true := decide_eq_true c22
                clear c22
                have H' := Am H
                clear H
                have hcz23_0 : w18.cell? ⟨gb252, 0, none⟩ = some (.int .i64 0) := (blk_cell BK252.out 0).trans rfl
                have hcz23_1 : w18.cell? ⟨gb252, 1, none⟩ = some (.int .i64 0) := (blk_cell BK252.out 1).trans rfl
                have hfz23_0 := blk_frozen BK252.out 0
                have hfz23_1 := blk_frozen BK252.out 1
                have p253 : 0 ≤ (((rd_T45 l0 x13_3).f1) : Int) := of_decide_eq_true az
                have q253 : ((rd_T45 l0 x13_3).f1) < (l1.length : Int) := of_decide_eq_true az
                obtain ⟨ad253, e253, hx253_0⟩ := Kd.at_int HR1.out ((rd_T45 l0 x13_3).f1) p253 q253
                cases e253
                have hn253_0 : ad253.block ≠ gb252 := Nat.ne_of_lt (Nat.lt_of_lt_of_le (by have := World.block_lt_of_cell? _ _ hx253_0; first | rwa [add_block] at this | exact this) GW252.out)
                have hn253_1 : ad253.block ≠ gb252 := Nat.ne_of_lt (Nat.lt_of_lt_of_le (by have := World.block_lt_of_cell? _ _ hx253_0; first | rwa [add_block] at this | exact this) GW252.out)
                replace hx253_0 := (HB.out.cell (World.block_lt_of_cell? w _ hx253_0)).trans hx253_0
                replace hx253_0 := (cell_far (p := ⟨gb252, 0, none⟩) (by first | (rw [add_block]; exact hn253_0) | (show (Addr.add _ _).block ≠ _; rw [add_block]; exact hn253_0) | exact hn253_0) (.int .i64 ((rd_T45 l0 x13_3).f0))).trans hx253_0
                replace hx253_0 := (cell_far (p := ⟨gb252, 1, none⟩) (by first | (rw [add_block]; exact hn253_1) | (show (Addr.add _ _).block ≠ _; rw [add_block]; exact hn253_1) | exact hn253_1) (.int .i64 ((rd_T45 l0 x13_3).f1))).trans hx253_0
                clear hn253_0
                clear hn253_1
                replace p253 := eq_true p253
                replace q253 := eq_true q253
                go_wp2
                go_meet
                case rel => exact ⟨_, (rd l1 ((rd_T45 l0 x13_3).f1)), rq, H', ⟨by have := HK1.out; have := HK2.out; have := HK3.out; first | omega | exact Nat.le_refl _⟩, ⟨by (with_reducible repeat (first | apply Kd.R_alloc | apply Kd.R_drewN | apply Kd.R_drew)); exact Kd.R_mono (Kd.R_far (p := ⟨gb252, 1, none⟩) (Kd.R_far (p := ⟨gb252, 0, none⟩) (Kd.R_types HO_12.out BK252.out (by decide)) (fun _ hk => hk.2) (.int .i64 ((rd_T45 l0 x13_3).f0))) (fun _ hk => hk.2) (.int .i64 ((rd_T45 l0 x13_3).f1))) (fun _ hk => trivial)⟩, ⟨by (with_reducible repeat (first | refine blk_drewN ?_ _ | refine blk_drew ?_ | refine blk_alloc ?_ _)); refine blk_put (cs := #[.int .i64 ((rd_T45 l0 x13_3).f0), .int .i64 0]) ?_ 1 _ rfl; (with_reducible repeat (first | refine blk_drewN ?_ _ | refine blk_drew ?_ | refine blk_alloc ?_ _)); refine blk_put (cs := #[.int .i64 0, .int .i64 0]) ?_ 0 _ rfl; (with_reducible repeat (first | refine blk_drewN ?_ _ | refine blk_drew ?_ | refine blk_alloc ?_ _)); exact BK252.out⟩, ⟨by repeat (first | (with_reducible first | exact HB.out | apply below_alloc | apply pw_below_drewN | apply below_drew1 | refine below_set ?_ GE252.out) | exact HB.out)⟩⟩
               ·
                rw [if_neg c22] at H
                exact absurd H (by simp)
              ·
               rw [if_neg c21] at H
               exact absurd H (by simp)
             ·
              rw [if_neg c20] at H
              have c20b0 : (((rd_T45 l0 x13_3).f0) == 2) = false := beq_eq_false_iff_ne.mpr c20
              have c20b1 : (((rd_T45 l0 x13_3).f0) != 2) = true := bne_iff_ne.mpr c20
              (first | rw [c20b0] | (simp only [i64_w, i32_w]; rw [c20b0]) | skip)
              have H' := Am H
              clear H
              go_wp2
              go_meet
              case rel => exact ⟨_, ((rd_T45 l0 x13_3).f1), rq, H', ⟨by have := HK1.out; have := HK2.out; have := HK3.out; first | omega | exact Nat.le_refl _⟩, ⟨by (with_reducible repeat (first | apply Kd.R_alloc | apply Kd.R_drewN | apply Kd.R_drew)); exact Kd.R_mono (Kd.R_far (p := ⟨gb252, 1, none⟩) (Kd.R_far (p := ⟨gb252, 0, none⟩) (Kd.R_types HO_12.out BK252.out (by decide)) (fun _ hk => hk.2) (.int .i64 ((rd_T45 l0 x13_3).f0))) (fun _ hk => hk.2) (.int .i64 ((rd_T45 l0 x13_3).f1))) (fun _ hk => trivial)⟩, ⟨by (with_reducible repeat (first | refine blk_drewN ?_ _ | refine blk_drew ?_ | refine blk_alloc ?_ _)); refine blk_put (cs := #[.int .i64 ((rd_T45 l0 x13_3).f0), .int .i64 0]) ?_ 1 _ rfl; (with_reducible repeat (first | refine blk_drewN ?_ _ | refine blk_drew ?_ | refine blk_alloc ?_ _)); refine blk_put (cs := #[.int .i64 0, .int .i64 0]) ?_ 0 _ rfl; (with_reducible repeat (first | refine blk_drewN ?_ _ | refine blk_drew ?_ | refine blk_alloc ?_ _)); exact BK252.out⟩, ⟨by repeat (first | (with_reducible first | exact HB.out | apply below_alloc | apply pw_below_drewN | apply below_drew1 | refine below_set ?_ GE252.out) | exact HB.out)⟩⟩
            case rest =>
             clear HC17
             try clear c1
             try clear c2
             try clear p2
             try clear q2
             try clear hx2
             try clear c5
             try clear c5b0
             try clear c5b1
             try clear p6
             try clear c7
             try clear c7b0
             try clear c8
             try clear c8b0
             try clear c9
             try clear c10
             try clear c11
             try clear c11b0
             try clear c12
             try clear c12b0
             try clear c14
             try clear c15
             try clear c15b0
             try clear c16
             try clear c16b0
             try clear c20
             try clear c20b0
             try clear c20b1
             try clear c21
             try clear c21b0
             try clear c22
             try clear c22b0
             try clear hcz19_0
             try clear hcz19_1
             try clear hcz23_0
             try clear hcz23_1
             try clear hfz19_0
             try clear hfz19_1
             try clear hfz23_0
             try clear hfz23_1
             try clear hx246_0
             try clear hx248_0
             try clear hx251_0
             try clear hx251_1
             try clear hx253_0
             try clear p2
             try clear p246
             try clear p248
             try clear p251
             try clear p253
             try clear p6
             try clear q2
             try clear q246
             try clear q248
             try clear q251
             try clear q253
             obtain ⟨kq, x15_16, rfl, HA, HJ16, HO_12, BK252, HB⟩ := hcut
             cases kq with
             | zero => exact absurd HA.out (by simp [surmiseref03_Eval.j3])
             | succ kj16 =>
              have H := HA.out
              clear HA
              simp only [surmiseref03_Eval.j3] at H
              have HC24 := Am H
              clear H
              have hcz25_0 : wc.cell? ⟨gb252, 0, none⟩ = some (.int .i64 ((rd_T45 l0 x13_3).f0)) := (blk_cell BK252.out 0).trans rfl
              have hcz25_1 : wc.cell? ⟨gb252, 1, none⟩ = some (.int .i64 ((rd_T45 l0 x13_3).f1)) := (blk_cell BK252.out 1).trans rfl
              have hfz25_0 := blk_frozen BK252.out 0
              have hfz25_1 := blk_frozen BK252.out 1
              go_upto_if 76 with (fail)
              go_cut [15] (fun v15 wc => ∃ (kq : Nat) (x15_23 : Int), v15 = .int .i64 x15_23 ∧ Aside0 (surmiseref03_Eval.j4 kq l0 l1 l2 x12_3 x13_3 x15_23 true ((rd_T45 l0 x13_3).f0) ((rd_T45 l0 x13_3).f1) = some (r1, r2)) ∧ Aside0 (kq ≤ kj16) ∧ Aside0 (Kd.R (Kd.int .i64) 3 wc w.heap.size (fun _ => True) u12 x12_3) ∧ Aside0 (wc.heap[gb252]? = some (.cells #[.int .i64 ((rd_T45 l0 x13_3).f0), .int .i64 ((rd_T45 l0 x13_3).f1)] 45 (0, 0))) ∧ Aside0 (Below w.heap.size w wc))
              case first =>
               have H := HC24.out
               clear HC24
               by_cases c26 : ((rd_T45 l0 x13_3).f0) = 3
               ·
                rw [if_pos c26] at H
                have c26b0 : (((rd_T45 l0 x13_3).f0) == 3) = true := beq_iff_eq.mpr c26
                have c26b1 : (((rd_T45 l0 x13_3).f0) != 3) = false := bne_eq_false_iff_eq.mpr c26
                clear c26
                (first | rw [c26b0] | (simp only [i64_w, i32_w]; rw [c26b0]) | skip)
                by_cases c27 : 0 ≤ ((rd_T45 l0 x13_3).f1)
                ·
                 rw [if_pos c27] at H
                 have c27b0 : decide (0 ≤ ((rd_T45 l0 x13_3).f1)) = true := decide_eq_true c27
                 clear c27
                 by_cases c28 : ((rd_T45 l0 x13_3).f1) < (l2.length : Int)
                 ·
                  rw [if_pos c28] at H
                  have c28b0 : decide (((rd_T45 l0 x13_3).f1) < (l2.length : Int)) = true := decide_eq_true c28
                  clear c28
                  have H' := Am H
                  clear H
                  have hcz29_0 : wc.cell? ⟨gb252, 0, none⟩ = some (.int .i64 ((rd_T45 l0 x13_3).f0)) := (blk_cell BK252.out 0).trans rfl
                  have hcz29_1 : wc.cell? ⟨gb252, 1, none⟩ = some (.int .i64 ((rd_T45 l0 x13_3).f1)) := (blk_cell BK252.out 1).trans rfl
                  have hfz29_0 := blk_frozen BK252.out 0
                  have hfz29_1 := blk_frozen BK252.out 1
                  have p254 : 0 ≤ (((rd_T45 l0 x13_3).f1) : Int) := of_decide_eq_true az
                  have q254 : ((rd_T45 l0 x13_3).f1) < (l2.length : Int) := of_decide_eq_true az
                  obtain ⟨ad254, e254, hx254_0⟩ := Kd.at_int HR2.out ((rd_T45 l0 x13_3).f1) p254 q254
                  cases e254
                  replace hx254_0 := (HB.out.cell (World.block_lt_of_cell? w _ hx254_0)).trans hx254_0
                  replace p254 := eq_true p254
                  replace q254 := eq_true q254
                  go_wp2
                  go_meet
                  case rel => exact ⟨_, (rd l2 ((rd_T45 l0 x13_3).f1)), rq, H', ⟨by have := HK1.out; have := HK2.out; have := HK3.out; have := HJ16.out; first | omega | exact Nat.le_refl _⟩, ⟨kR HO_12⟩, ⟨kB BK252⟩, ⟨by repeat (first | (with_reducible first | exact HB.out | apply below_alloc | apply pw_below_drewN | apply below_drew1 | refine below_set ?_ GE252.out) | exact HB.out)⟩⟩
                 ·
                  rw [if_neg c28] at H
                  exact absurd H (by simp)
                ·
                 rw [if_neg c27] at H
                 exact absurd H (by simp)
               ·
                rw [if_neg c26] at H
                have c26b0 : (((rd_T45 l0 x13_3).f0) == 3) = false := beq_eq_false_iff_ne.mpr c26
                have c26b1 : (((rd_T45 l0 x13_3).f0) != 3) = true := bne_iff_ne.mpr c26
                (first | rw [c26b0] | (simp only [i64_w, i32_w]; rw [c26b0]) | skip)
                have H' := Am H
                clear H
                go_wp2
                go_meet
                case rel => exact ⟨_, (x15_16), rq, H', ⟨by have := HK1.out; have := HK2.out; have := HK3.out; have := HJ16.out; first | omega | exact Nat.le_refl _⟩, ⟨kR HO_12⟩, ⟨kB BK252⟩, ⟨by repeat (first | (with_reducible first | exact HB.out | apply below_alloc | apply pw_below_drewN | apply below_drew1 | refine below_set ?_ GE252.out) | exact HB.out)⟩⟩
              case rest =>
               clear HC24
               try clear c1
               try clear c2
               try clear p2
               try clear q2
               try clear hx2
               try clear c5
               try clear c5b0
               try clear c5b1
               try clear p6
               try clear c7
               try clear c7b0
               try clear c8
               try clear c8b0
               try clear c9
               try clear c10
               try clear c11
               try clear c11b0
               try clear c12
               try clear c12b0
               try clear c14
               try clear c15
               try clear c15b0
               try clear c16
               try clear c16b0
               try clear c20
               try clear c20b0
               try clear c20b1
               try clear c21
               try clear c21b0
               try clear c22
               try clear c22b0
               try clear p24
               try clear q24
               try clear hx24
               try clear p25
               try clear q25
               try clear hx25
               try clear c26
               try clear c26b0
               try clear c26b1
               try clear c27
               try clear c27b0
               try clear c28
               try clear c28b0
               try clear hcz19_0
               try clear hcz19_1
               try clear hcz23_0
               try clear hcz23_1
               try clear hcz25_0
               try clear hcz25_1
               try clear hcz29_0
               try clear hcz29_1
               try clear hfz19_0
               try clear hfz19_1
               try clear hfz23_0
               try clear hfz23_1
               try clear hfz25_0
               try clear hfz25_1
               try clear hfz29_0
               try clear hfz29_1
               try clear hx246_0
               try clear hx248_0
               try clear hx251_0
               try clear hx251_1
               try clear hx253_0
               try clear hx254_0
               try clear p2
               try clear p246
               try clear p248
               try clear p251
               try clear p253
               try clear p254
               try clear p6
               try clear q2
               try clear q246
               try clear q248
               try clear q251
               try clear q253
               try clear q254
               obtain ⟨kq, x15_23, rfl, HA, HJ23, HO_12, BK252, HB⟩ := hcut
               cases kq with
               | zero => exact absurd HA.out (by simp [surmiseref03_Eval.j4])
               | succ kj23 =>
                have H := HA.out
                clear HA
                simp only [surmiseref03_Eval.j4] at H
                replace H := Option.bind_eq_some_iff.mp H
                obtain ⟨t255, A300, H⟩ := H
                replace H : (if t255 > 0 then (if 0 ≤ (wrap64 ((x12_3.length : Int) - t255)) then (if (wrap64 ((x12_3.length : Int) - t255)) ≤ (x12_3.length : Int) then ((surmiseref03_Made.f ((rd_T45 l0 x13_3).f0) (x12_3.drop ((wrap64 ((x12_3.length : Int) - t255)) : Int).toNat)).bind fun bt260 => ((some (x12_3.take ((wrap64 ((x12_3.length : Int) - t255)) : Int).toNat : List Int)).bind fun y262 => (if bt260.2 = true then ((some (([] : List Int) : List Int)).bind fun y265 => (if y265.length + y262.length < 17592186044416 then ((some (y265 ++ y262 : List Int)).bind fun y268 => (if y268.length < 17592186044416 then (surmiseref03_Eval.l2 kj23 l0 l1 l2 (y268 ++ [bt260.1]) (wrap64 (x13_3 + 1))) else (none))) else (none))) else (some (0, 3))))) else (none)) else (none)) else (if true = true then ((some (([] : List Int) : List Int)).bind fun y274 => (if y274.length + x12_3.length < 17592186044416 then ((some (y274 ++ x12_3 : List Int)).bind fun y277 => (if y277.length < 17592186044416 then (surmiseref03_Eval.l2 kj23 l0 l1 l2 (y277 ++ [x15_23]) (wrap64 (x13_3 + 1))) else (none))) else (none))) else (some (0, 3)))) = some (r1, r2) := H
                have A30 := Am A300
                clear A300
                by_cases c31 : t255 > 0
                ·
                 rw [if_pos c31] at H
                 have c31b0 : decide (0 < t255) = true := decide_eq_true c31
                 clear c31
                 obtain ⟨ji32, hji32⟩ : ∃ j_ : Int, (wrap64 ((x12_3.length : Int) - t255)) = j_ := ⟨_, rfl⟩
                 replace H : (if 0 ≤ (ji32) then (if (ji32) ≤ (x12_3.length : Int) then ((surmiseref03_Made.f ((rd_T45 l0 x13_3).f0) (x12_3.drop ((ji32) : Int).toNat)).bind fun bt260 => ((some (x12_3.take ((ji32) : Int).toNat : List Int)).bind fun y262 => (if bt260.2 = true then ((some (([] : List Int) : List Int)).bind fun y265 => (if y265.length + y262.length < 17592186044416 then ((some (y265 ++ y262 : List Int)).bind fun y268 => (if y268.length < 17592186044416 then (surmiseref03_Eval.l2 kj23 l0 l1 l2 (y268 ++ [bt260.1]) (wrap64 (x13_3 + 1))) else (none))) else (none))) else (some (0, 3))))) else (none)) else (none)) = some (r1, r2) := by first | (rw [hji32] at H; exact H) | (simp only [hji32] at H ⊢; exact H)
                 (try rw [hji32] at A30)
                 have hji32w : (IntKind.i64.wrap ((x12_3.length : Int) - t255)) = ji32 := (i64_w _).trans hji32
                 by_cases c33 : 0 ≤ (ji32)
                 ·
                  rw [if_pos c33] at H
                  have c33b0 := eq_true c33
                  have c33b1 : decide (0 ≤ (ji32)) = true := decide_eq_true c33
                  clear c33
                  by_cases c34 : (ji32) ≤ (x12_3.length : Int)
                  ·
                   rw [if_pos c34] at H
                   have c34b0 := eq_true c34
                   have c34b1 : decide ((ji32) ≤ (x12_3.length : Int)) = true := decide_eq_true c34
                   clear c34
                   obtain ⟨y256, hy256⟩ : ∃ y_ : List Int, y_ = (x12_3.drop ((ji32) : Int).toNat) := ⟨_, rfl⟩
                   replace H : ((surmiseref03_Made.f ((rd_T45 l0 x13_3).f0) y256).bind fun bt260 => ((some (x12_3.take ((ji32) : Int).toNat : List Int)).bind fun y262 => (if bt260.2 = true then ((some (([] : List Int) : List Int)).bind fun y265 => (if y265.length + y262.length < 17592186044416 then ((some (y265 ++ y262 : List Int)).bind fun y268 => (if y268.length < 17592186044416 then (surmiseref03_Eval.l2 kj23 l0 l1 l2 (y268 ++ [bt260.1]) (wrap64 (x13_3 + 1))) else (none))) else (none))) else (some (0, 3))))) = some (r1, r2) := by first | (rw [hy256]; with_reducible exact H) | (have H2_ := (Option.bind_some _ _).symm.trans H; rw [hy256]; with_reducible exact H2_) | (have H2_ := (Option.bind_some _ _).symm.trans H; with_reducible exact H2_) | with_reducible exact H | (rw [hy256]; exact H) | exact H
                   have Ny256 := Am hy256
                   clear hy256
                   replace H := Option.bind_eq_some_iff.mp H
                   obtain ⟨⟨t260, t261⟩, A350, H⟩ := H
                   replace H : ((some (x12_3.take ((ji32) : Int).toNat : List Int)).bind fun y262 => (if t261 = true then ((some (([] : List Int) : List Int)).bind fun y265 => (if y265.length + y262.length < 17592186044416 then ((some (y265 ++ y262 : List Int)).bind fun y268 => (if y268.length < 17592186044416 then (surmiseref03_Eval.l2 kj23 l0 l1 l2 (y268 ++ [t260]) (wrap64 (x13_3 + 1))) else (none))) else (none))) else (some (0, 3)))) = some (r1, r2) := H
                   have A35 := Am A350
                   clear A350
                   have c36b0 := eq_true (of_decide_eq_true az : (ji32) ≤ (x12_3.length : Int))
                   obtain ⟨y262, hy262⟩ : ∃ y_ : List Int, y_ = (x12_3.take ((ji32) : Int).toNat) := ⟨_, rfl⟩
                   replace H : (if t261 = true then ((some (([] : List Int) : List Int)).bind fun y265 => (if y265.length + y262.length < 17592186044416 then ((some (y265 ++ y262 : List Int)).bind fun y268 => (if y268.length < 17592186044416 then (surmiseref03_Eval.l2 kj23 l0 l1 l2 (y268 ++ [t260]) (wrap64 (x13_3 + 1))) else (none))) else (none))) else (some (0, 3))) = some (r1, r2) := by first | (rw [hy262]; with_reducible exact H) | (have H2_ := (Option.bind_some _ _).symm.trans H; rw [hy262]; with_reducible exact H2_) | (have H2_ := (Option.bind_some _ _).symm.trans H; with_reducible exact H2_) | with_reducible exact H | (rw [hy262]; exact H) | exact H
                   have Ny262 := Am hy262
                   clear hy262
                   by_cases c37 : t261 = true
                   ·
                    subst c37
                    have H1 : ((some (([] : List Int) : List Int)).bind fun y265 => (if y265.length + y262.length < 17592186044416 then ((some (y265 ++ y262 : List Int)).bind fun y268 => (if y268.length < 17592186044416 then (surmiseref03_Eval.l2 kj23 l0 l1 l2 (y268 ++ [t260]) (wrap64 (x13_3 + 1))) else (none))) else (none))) = some (r1, r2) := by rw [if_pos rfl] at H; exact H
                    clear H
                    have H := H1
                    clear H1
                    obtain ⟨y265, hy265⟩ : ∃ y_ : List Int, y_ = (([] : List Int)) := ⟨_, rfl⟩
                    replace H : (if y265.length + y262.length < 17592186044416 then ((some (y265 ++ y262 : List Int)).bind fun y268 => (if y268.length < 17592186044416 then (surmiseref03_Eval.l2 kj23 l0 l1 l2 (y268 ++ [t260]) (wrap64 (x13_3 + 1))) else (none))) else (none)) = some (r1, r2) := by first | (rw [hy265]; with_reducible exact H) | (have H2_ := (Option.bind_some _ _).symm.trans H; rw [hy265]; with_reducible exact H2_) | (have H2_ := (Option.bind_some _ _).symm.trans H; with_reducible exact H2_) | with_reducible exact H | (rw [hy265]; exact H) | exact H
                    have Ny265 := Am hy265
                    clear hy265
                    by_cases c38 : y265.length + y262.length < 17592186044416
                    ·
                     rw [if_pos c38] at H
                     have LMc38 := Am c38
                     clear c38
                     obtain ⟨y268, hy268⟩ : ∃ y_ : List Int, y_ = (y265 ++ y262) := ⟨_, rfl⟩
                     replace H : (if y268.length < 17592186044416 then (surmiseref03_Eval.l2 kj23 l0 l1 l2 (y268 ++ [t260]) (wrap64 (x13_3 + 1))) else (none)) = some (r1, r2) := by first | (rw [hy268]; with_reducible exact H) | (have H2_ := (Option.bind_some _ _).symm.trans H; rw [hy268]; with_reducible exact H2_) | (have H2_ := (Option.bind_some _ _).symm.trans H; with_reducible exact H2_) | with_reducible exact H | (rw [hy268]; exact H) | exact H
                     have Ny268 := Am hy268
                     clear hy268
                     by_cases c39 : y268.length < 17592186044416
                     ·
                      rw [if_pos c39] at H
                      have LMc39 := Am c39
                      clear c39
                      obtain ⟨y271, hy271⟩ : ∃ y_ : List Int, y_ = (y268 ++ [t260]) := ⟨_, rfl⟩
                      replace H : (surmiseref03_Eval.l2 kj23 l0 l1 l2 y271 (wrap64 (x13_3 + 1))) = some (r1, r2) := by first | (rw [hy271]; with_reducible exact H) | (have H2_ := (Option.bind_some _ _).symm.trans H; rw [hy271]; with_reducible exact H2_) | (have H2_ := (Option.bind_some _ _).symm.trans H; with_reducible exact H2_) | with_reducible exact H | (rw [hy271]; exact H) | exact H
                      have Ny271 := Am hy271
                      clear hy271
                      have H' := Am H
                      clear H
                      have hcz40_0 : wc.cell? ⟨gb252, 0, none⟩ = some (.int .i64 ((rd_T45 l0 x13_3).f0)) := (blk_cell BK252.out 0).trans rfl
                      have hcz40_1 : wc.cell? ⟨gb252, 1, none⟩ = some (.int .i64 ((rd_T45 l0 x13_3).f1)) := (blk_cell BK252.out 1).trans rfl
                      have hfz40_0 := blk_frozen BK252.out 0
                      have hfz40_1 := blk_frozen BK252.out 1
                      try go_wp2_with (first | ((with_reducible refine gate_callee (f := 23) rfl ?_); refine goesL_ (some 84) rfl rfl Try.func23 (by kernel_rfl) rfl #[.int .i64 ((rd_T45 l0 x13_3).f0)] rfl aq ?_; (with_reducible refine (surmiseref03_Takes.calls ((rd_T45 l0 x13_3).f0) t255 _ A30.out).mono ?_); rintro e w41 ⟨rfl, hb⟩; refine ⟨_, rfl, ?_⟩; have n0_ := Am (Kd.R_below (kR HO_12) hb); have n1_ := Am (blk_below (g := gb252) (o := .cells #[.int .i64 ((rd_T45 l0 x13_3).f0), .int .i64 ((rd_T45 l0 x13_3).f1)] 45 (0, 0)) (kB BK252) hb); have n2_ := Am (below_step (by repeat (first | (with_reducible first | exact HB.out | apply below_alloc | apply pw_below_drewN | apply below_drew1 | refine below_set ?_ GE252.out) | exact HB.out)) hb); clear HO_12; clear BK252; clear HB; have HO_12 := n0_; have BK252 := n1_; have HB := n2_; clear n0_ n1_ n2_; (try clear hb); (try clear hb2); (try clear hk); (try clear hi)))
                      have n0_ := Am (Kd.R_drew HO_12.out)
                      have n1_ := Am (blk_drew BK252.out)
                      have n2_ := Am (below_drew1 HB.out)
                      clear HO_12
                      clear BK252
                      clear HB
                      have HO_12 := n0_
                      have BK252 := n1_
                      have HB := n2_
                      clear n0_ n1_ n2_
                      obtain ⟨Ao43, co43, eo43⟩ := Kd.R_slice HO_12.out
                      (first | subst eo43 | (injection eo43 with f1_ f2_ f3_; have f4_ := f1_.symm; have f5_ := f3_.symm; clear f1_ f2_ f3_; subst f4_; subst f5_))
                      have q44 : ((ji32) : Int) ≤ ((x12_3.length : Int) : Int) := of_decide_eq_true az
                      obtain ⟨i044, hi044, _, hsz44, _⟩ := info_parts info3
                      have hroom44 : x12_3.length ≤ co43 := (Kd.R_reads' HO_12.out).2.1
                      have hC44 : Kd.C (Kd.int .i64) _ Ao43 x12_3.length x12_3 := (Kd.R_reads' HO_12.out).2.2
                      have q044 : (0 : Int) ≤ ((ji32) : Int) := of_decide_eq_true az
                      have hcut44 := cut_from (P := Try.prog) 28 3 .i64 Try.underlying28 hi044 1 hsz44 Ao43 x12_3.length co43 (ji32) q044 q44
                      have hr44 := Kd.C_drop (m := ((ji32) : Int).toNat) (c := co43) hC44 (by omega) hroom44
                      obtain ⟨A44, hA44⟩ : ∃ A1, A1 = (if co43 = ((ji32) : Int).toNat then Ao43 else (Ao43 : Option Addr).map (·.add (((ji32) : Int).toNat * 1))) := ⟨_, rfl⟩
                      obtain ⟨c44, hc44⟩ : ∃ c1, c1 = co43 - ((ji32) : Int).toNat := ⟨_, rfl⟩
                      have hy44 : y256.length = x12_3.length - ((ji32) : Int).toNat := (by rw [Ny256.out, List.length_drop] <;> omega)
                      rw [show (x12_3).drop ((ji32) : Int).toNat = y256 from Ny256.out.symm] at hr44
                      replace hr44 : Kd.C (Kd.int .i64) _ A44 y256.length y256 := (by rw [hA44]; exact hr44)
                      rw [← hy44, ← hA44, ← hc44] at hcut44
                      have HR259 := Am hr44
                      have HC259 := Am (show y256.length ≤ c44 from by rw [hy44, hc44]; exact Nat.sub_le_sub_right hroom44 _)
                      clear hr44 hC44 hroom44 hi044 hsz44 hc44
                      have KY44 := Am hy44
                      have KA44 := Am hA44
                      clear hy44 hA44
                      have KL44 := Am (show ((ji32) : Int).toNat ≤ x12_3.length from by omega)
                      replace q44 := eq_true q44
                      refine start_ (n := 14) (S := fun w' => w'.cell? ⟨gb252, 0, none⟩ = some (.int .i64 ((rd_T45 l0 x13_3).f0)) ∧ w'.cell? ⟨gb252, 1, none⟩ = some (.int .i64 ((rd_T45 l0 x13_3).f1))) (ds := []) #[false, false, false, false, false, false, false, false, false, false, false, false, false, false] (by kernel_rfl) rfl rfl ⟨(blk_cell BK252.out 0).trans rfl, (blk_cell BK252.out 1).trans rfl⟩ (fun hHeld => ?_); refine with_tabW surmiseref03_Eval.tab26 surmiseref03_Eval.bits26 (fun HT_ HW_ => ?_)
                      generalize w41.drew = w42 at HO_12 BK252 HB HR259 hHeld ⊢
                      refine pure_ (i := 0) (N := some 88) (v := ?_) (a' := ?_) #[true, false, false, false, false, false, false, false, false, false, false, false, false, false] rfl rfl (any_of HT_.out (by kernel_rfl)) (fun _ _ _ h => h) (Or.inl ⟨by rfl, ?_⟩) ?_ ?_
                      rotate_left
                      ·
                       intro w'
                       go_simp
                       with_reducible rfl
                      rotate_left
                      ·
                       simp only [Act.put, List.setIfInBounds_toArray, List.set_cons_zero, List.set_cons_succ, i64_w, i32_w]
                       rfl
                      refine pure_ (i := 2) (N := some 90) (v := ?_) (a' := ?_) #[true, false, true, false, false, false, false, false, false, false, false, false, false, false] rfl rfl (any_of HT_.out (by kernel_rfl)) (fun _ _ _ h => h) (Or.inl ⟨by rfl, ?_⟩) ?_ ?_
                      rotate_left
                      ·
                       intro w'
                       go_simp
                       with_reducible rfl
                      rotate_left
                      ·
                       simp only [Act.put, List.setIfInBounds_toArray, List.set_cons_zero, List.set_cons_succ, i64_w, i32_w]
                       rfl
                      refine pure_ (i := 3) (N := some 91) (v := ?_) (a' := ?_) #[true, false, true, true, false, false, false, false, false, false, false, false, false, false] rfl rfl (any_of HT_.out (by kernel_rfl)) (fun _ _ _ h => h) (Or.inl ⟨by rfl, ?_⟩) ?_ ?_
                      rotate_left
                      ·
                       intro w'
                       go_simp
                       with_reducible rfl
                      rotate_left
                      ·
                       simp only [Act.put, List.setIfInBounds_toArray, List.set_cons_zero, List.set_cons_succ, i64_w, i32_w]
                       rfl
                      refine pure_ (i := 4) (N := some 92) (v := ?_) (a' := ?_) #[true, false, true, true, true, false, false, false, false, false, false, false, false, false] rfl rfl (any_of HT_.out (by kernel_rfl)) (fun _ _ _ h => h) (Or.inl ⟨by rfl, ?_⟩) ?_ ?_
                      rotate_left
                      ·
                       intro w'
                       go_simp
                       with_reducible rfl
                      rotate_left
                      ·
                       simp only [Act.put, List.setIfInBounds_toArray, List.set_cons_zero, List.set_cons_succ, i64_w, i32_w]
                       rfl
                      refine pure_ (i := 5) (N := some 93) (v := ?_) (a' := ?_) #[true, false, true, true, true, true, false, false, false, false, false, false, false, false] rfl rfl (any_of HT_.out (by kernel_rfl)) (fun _ _ _ h => h) (Or.inl ⟨by rfl, ?_⟩) ?_ ?_
                      rotate_left
                      ·
                       intro w'
                       go_simp
                       with_reducible rfl
                      rotate_left
                      ·
                       simp only [Act.put, List.setIfInBounds_toArray, List.set_cons_zero, List.set_cons_succ, i64_w, i32_w]
                       rfl
                      refine pure_ (i := 6) (N := some 94) (v := ?_) (a' := ?_) #[true, false, true, true, true, true, true, false, false, false, false, false, false, false] rfl rfl (any_of HT_.out (by kernel_rfl)) (fun _ _ _ h => h) (Or.inl ⟨by rfl, ?_⟩) ?_ ?_
                      rotate_left
                      ·
                       intro w'
                       go_simp
                       with_reducible rfl
                      rotate_left
                      ·
                       simp only [Act.put, List.setIfInBounds_toArray, List.set_cons_zero, List.set_cons_succ, i64_w, i32_w]
                       rfl
                      refine pure_ (i := 7) (N := some 95) (v := ?_) (a' := ?_) #[true, false, true, true, true, true, true, true, false, false, false, false, false, false] rfl rfl (any_of HT_.out (by kernel_rfl)) (fun _ _ _ h => h) (Or.inl ⟨by rfl, ?_⟩) ?_ ?_
                      rotate_left
                      ·
                       intro w'
                       go_simp
                       with_reducible rfl
                      rotate_left
                      ·
                       simp only [Act.put, List.setIfInBounds_toArray, List.set_cons_zero, List.set_cons_succ, i64_w, i32_w]
                       rfl
                      refine take_ (i := 1) (N := some 89) (v := ?_) (a' := ?_) #[true, true, true, true, true, true, true, true, false, false, false, false, false, false] rfl rfl (take_ofW HT_.out HW_.out (by kernel_rfl)) (fun _ _ _ h => h) (Or.inl ⟨by rfl, ?_⟩) hHeld ?_ ?_
                      rotate_left
                      ·
                       rintro w' ⟨s0, s1⟩
                       go_simp
                       with_reducible rfl
                      rotate_left
                      ·
                       simp only [Act.put, List.setIfInBounds_toArray, List.set_cons_zero, List.set_cons_succ, i64_w, i32_w]
                       rfl
                      refine one_ (i := 8) (N := some 96) #[true, true, true, true, true, true, true, true, true, false, false, false, false, false] rfl rfl (one_of HT_.out (by kernel_rfl)) (by decide) (fun K hK => ?_)
                      refine goes_ Try.func27 (by kernel_rfl) rfl #[.int .i64 ((rd_T45 l0 x13_3).f0), .slice A44 y256.length c44] (by rfl) rfl rfl aq ?_
                      with_reducible refine (surmiseref03_Made.calls ((rd_T45 l0 x13_3).f0) _ _ y256 t260 true _ ?side1 ?side2 A35.out).mono ?_
                      (case side1 => repeat (first | exact (by repeat (first | (with_reducible exact HR259.out) | (with_reducible refine Kd.C_alloc ?_ _) | (with_reducible refine Kd.C_drewN ?_ _) | (with_reducible refine Kd.C_drew ?_) | exact HR259.out)) | (with_reducible refine Kd.C_alloc ?_ _) | (with_reducible refine Kd.C_drewN ?_ _) | (with_reducible refine Kd.C_drew ?_)))
                      (case side2 => exact HC259.out)
                      rintro e w45 ⟨rfl, hb⟩
                      refine ⟨_, rfl, ?_⟩
                      have n0_ := Am (Kd.R_below (kR HO_12) hb)
                      have n1_ := Am (blk_below (g := gb252) (o := .cells #[.int .i64 ((rd_T45 l0 x13_3).f0), .int .i64 ((rd_T45 l0 x13_3).f1)] 45 (0, 0)) (kB BK252) hb)
                      have n2_ := Am (Kd.C_below (by repeat (first | (with_reducible exact HR259.out) | (with_reducible refine Kd.C_alloc ?_ _) | (with_reducible refine Kd.C_drewN ?_ _) | (with_reducible refine Kd.C_drew ?_) | exact HR259.out)) hb)
                      have n3_ := Am (below_step (by repeat (first | (with_reducible first | exact HB.out | apply below_alloc | apply pw_below_drewN | apply below_drew1 | refine below_set ?_ GE252.out) | exact HB.out)) hb)
                      clear HO_12
                      clear BK252
                      clear HR259
                      clear HB
                      have HO_12 := n0_
                      have BK252 := n1_
                      have HR259 := n2_
                      have HB := n3_
                      clear n0_ n1_ n2_ n3_
                      (try clear hb)
                      (try clear hb2)
                      (try clear hk)
                      (try clear hi)
                      refine hK.out _ _ ⟨(blk_cell BK252.out 0).trans rfl, (blk_cell BK252.out 1).trans rfl⟩ (fun hHeld => ?_)
                      clear hK K
                      refine norm_ (a' := ?_) ?_ ?_
                      rotate_left
                      ·
                       show Act.put _ (some 96) _ = _
                       simp only [Act.put, List.setIfInBounds_toArray, List.set_cons_zero, List.set_cons_succ, i64_w, i32_w]
                       rfl
                      refine pure_ (i := 9) (N := some 87) (v := ?_) (a' := ?_) #[true, true, true, true, true, true, true, true, true, true, false, false, false, false] rfl rfl (any_of HT_.out (by kernel_rfl)) (fun _ _ _ h => h) (Or.inl ⟨by rfl, ?_⟩) ?_ ?_
                      rotate_left
                      ·
                       intro w'
                       go_simp
                       with_reducible rfl
                      rotate_left
                      ·
                       simp only [Act.put, List.setIfInBounds_toArray, List.set_cons_zero, List.set_cons_succ, i64_w, i32_w]
                       rfl
                      refine pure_ (i := 10) (N := some 97) (v := ?_) (a' := ?_) #[true, true, true, true, true, true, true, true, true, true, true, false, false, false] rfl rfl (any_of HT_.out (by kernel_rfl)) (fun _ _ _ h => h) (Or.inl ⟨by rfl, ?_⟩) ?_ ?_
                      rotate_left
                      ·
                       intro w'
                       go_simp
                       with_reducible rfl
                      rotate_left
                      ·
                       simp only [Act.put, List.setIfInBounds_toArray, List.set_cons_zero, List.set_cons_succ, i64_w, i32_w]
                       rfl
                      refine pure_ (i := 11) (N := some 98) (v := ?_) (a' := ?_) #[true, true, true, true, true, true, true, true, true, true, true, true, false, false] rfl rfl (any_of HT_.out (by kernel_rfl)) (fun _ _ _ h => h) (Or.inl ⟨by rfl, ?_⟩) ?_ ?_
                      rotate_left
                      ·
                       intro w'
                       go_simp
                       with_reducible rfl
                      rotate_left
                      ·
                       simp only [Act.put, List.setIfInBounds_toArray, List.set_cons_zero, List.set_cons_succ, i64_w, i32_w]
                       rfl
                      refine pure_ (i := 12) (N := some 15) (v := ?_) (a' := ?_) #[true, true, true, true, true, true, true, true, true, true, true, true, true, false] rfl rfl (any_of HT_.out (by kernel_rfl)) (fun _ _ _ h => h) (Or.inl ⟨by rfl, ?_⟩) ?_ ?_
                      rotate_left
                      ·
                       intro w'
                       go_simp
                       with_reducible rfl
                      rotate_left
                      ·
                       simp only [Act.put, List.setIfInBounds_toArray, List.set_cons_zero, List.set_cons_succ, i64_w, i32_w]
                       rfl
                      refine pure_ (i := 13) (N := some 16) (v := ?_) (a' := ?_) #[true, true, true, true, true, true, true, true, true, true, true, true, true, true] rfl rfl (any_of HT_.out (by kernel_rfl)) (fun _ _ _ h => h) (Or.inl ⟨by rfl, ?_⟩) ?_ ?_
                      rotate_left
                      ·
                       intro w'
                       go_simp
                       with_reducible rfl
                      rotate_left
                      ·
                       simp only [Act.put, List.setIfInBounds_toArray, List.set_cons_zero, List.set_cons_succ, i64_w, i32_w]
                       rfl
                      refine done_ (done_of HT_.out (by kernel_rfl)) ?_
                      have q46 : ((ji32) : Int) ≤ ((x12_3.length : Int) : Int) := of_decide_eq_true az
                      obtain ⟨i046, hi046, _, hsz46, _⟩ := info_parts info3
                      have hcut46 := cut_to (P := Try.prog) 28 3 .i64 Try.underlying28 hi046 Ao43 x12_3.length co43 (ji32) (of_decide_eq_true az) q46 (Kd.R_reads' HO_12.out).2.1
                      have hr46 := Kd.R_take (m := ((ji32) : Int).toNat) HO_12.out (by omega)
                      have hy46 : y262.length = ((ji32) : Int).toNat := (by rw [Ny262.out, List.length_take]; omega)
                      rw [← Ny262.out] at hr46
                      rw [← hy46] at hr46 hcut46
                      clear hy46 hi046 hsz46 HO_12
                      have HO264 := Am hr46
                      clear hr46
                      replace q46 := eq_true q46
                      try go_wp2_with (first | ((with_reducible refine gate_dst (N := 107) rfl ?_); refine Kd.R_lit (Kd.int .i64) _ 3 ?hg (N := 107) ?hd (xs := ([] : List Int)) (inner := []) (ok := fun _ => True) (okp := fun _ => True) ?hr ?hp (fun _ hk => hk) trivial (Below.refl _ _) (Nat.le_refl _) (by simp) ?_; (case hd => rfl); (case hg => rfl); (case hr => first | (go_simp; done) | (go_simp; rfl)); (case hp => exact (Reps.none _ _)); intro v266 w47 ho48 hb hg_ hnew_; clear hg_ hnew_; (first | rw [← Ny265.out] at ho48 | (simp only [Int.reduceToNat] at ho48; rw [← Ny265.out] at ho48)); have n0_ := Am (Kd.R_elder' (kR HO264) (Kd.R_base ho48) hb); have n1_ := Am (Kd.R_lower (Kd.R_new' ho48 (Kd.R_lt (kR HO264))) (below_size (by repeat (first | (with_reducible first | exact HB.out | apply below_alloc | apply pw_below_drewN | apply below_drew1 | refine below_set ?_ GE252.out) | exact HB.out)))); have n2_ := Am (blk_below (g := gb252) (o := .cells #[.int .i64 ((rd_T45 l0 x13_3).f0), .int .i64 ((rd_T45 l0 x13_3).f1)] 45 (0, 0)) (kB BK252) hb); have n3_ := Am (Kd.C_below (by repeat (first | (with_reducible exact HR259.out) | (with_reducible refine Kd.C_alloc ?_ _) | (with_reducible refine Kd.C_drewN ?_ _) | (with_reducible refine Kd.C_drew ?_) | exact HR259.out)) hb); have n4_ := Am (below_step (by repeat (first | (with_reducible first | exact HB.out | apply below_alloc | apply pw_below_drewN | apply below_drew1 | refine below_set ?_ GE252.out) | exact HB.out)) hb); clear HO264; clear BK252; clear HR259; clear HB; have HO264 := n0_; have HO267 := n1_; have BK252 := n2_; have HR259 := n3_; have HB := n4_; clear n0_ n1_ n2_ n3_ n4_; clear hb ho48) | ((with_reducible refine gate_builtin (b := .append) (xs := #[.tmp 107, .tmp 108]) rfl ?_); at_builtin; refine Kd.R_append_rows (Kd.int .i64) (w0 := w) w.heap.size rfl (.tmp 107) (.tmp 108) 28 3 (.int .i64 0) 8 rfl Try.underlying28 info3 rfl (by decide) (by omega) v266 y265 y262 _ _ _ (fun k_ => some k_ ≠ (.slice Ao43 y262.length co43 : Value).ownBlock) (fun _ => False) rfl rfl ?aO ?aR (fun _ _ h => h) (fun _ h => h.elim) ?aF ?aB ?aS ?aL ?_; (case aR => repeat (first | exact (Kd.R_reads' HO264.out).2.2 | (with_reducible refine Kd.C_alloc ?_ _) | (with_reducible refine Kd.C_drewN ?_ _) | (with_reducible refine Kd.C_drew ?_))); (case aB => exact (by repeat (first | (with_reducible first | exact HB.out | apply below_alloc | apply pw_below_drewN | apply below_drew1 | refine below_set ?_ GE252.out) | exact HB.out))); (case aF => exact (fun k_ hk => Kd.fresh' (Kd.R_lt (kR HO264)) k_ hk)); (case aO => exact (by (with_reducible repeat (first | apply Kd.R_alloc | apply Kd.R_drewN | apply Kd.R_drew)); exact Kd.R_mono HO267.out (fun _ hk => hk.2))); (case aS => exact (below_size (by repeat (first | (with_reducible first | exact HB.out | apply below_alloc | apply pw_below_drewN | apply below_drew1 | refine below_set ?_ GE252.out) | exact HB.out)))); (case aL => have := LMc38.out; omega); intro v269 w49 ho hb hg hat; rw [← Ny268.out] at ho; have n0_ := Am (Kd.R_after (ok := (fun _ => True)) (kR HO264) hg hat); have n1_ := Am (blk_grown (g := gb252) (o := .cells #[.int .i64 ((rd_T45 l0 x13_3).f0), .int .i64 ((rd_T45 l0 x13_3).f1)] 45 (0, 0)) (kB BK252) hg (Kd.R_ne HO267.out BK252.out (by decide))); have n2_ := Am (hb); have n3_ := Am (ho); clear HO264; clear BK252; clear HB; clear HO267; have HO264 := n0_; have BK252 := n1_; have HB := n2_; have HO270 := n3_; clear n0_ n1_ n2_ n3_; clear ho hb hg hat) | ((with_reducible refine gate_builtin (b := .append) (xs := #[.tmp 109, .tmp 111]) rfl ?_); at_builtin; refine Kd.R_append (Kd.int .i64) (w0 := w) w.heap.size rfl (.tmp 109) (.tmp 111) 28 3 (.int .i64 0) 8 rfl Try.underlying28 info3 rfl (by decide) (by omega) v269 y268 t260 [.int .i64 t260] (fun k_ => some k_ ≠ (.slice Ao43 y262.length co43 : Value).ownBlock) (fun _ => False) rfl rfl ?aP (fun _ hk => hk.elim) ?aF ?aO ?aB ?aS ?aL ?_; (case aP => exact rfl); (case aB => exact (by repeat (first | (with_reducible first | exact HB.out | apply below_alloc | apply pw_below_drewN | apply below_drew1 | refine below_set ?_ GE252.out) | exact HB.out))); (case aF => exact (fun k_ hk => Kd.fresh' (Kd.R_lt (kR HO264)) k_ hk)); (case aO => exact (kR HO270)); (case aS => exact (below_size (by repeat (first | (with_reducible first | exact HB.out | apply below_alloc | apply pw_below_drewN | apply below_drew1 | refine below_set ?_ GE252.out) | exact HB.out)))); (case aL => have := LMc39.out; omega); intro v272 w50 ho hb hg hat; rw [← Ny271.out] at ho; have n0_ := Am (Kd.R_after (ok := (fun _ => True)) (kR HO264) hg hat); have n1_ := Am (blk_grown (g := gb252) (o := .cells #[.int .i64 ((rd_T45 l0 x13_3).f0), .int .i64 ((rd_T45 l0 x13_3).f1)] 45 (0, 0)) (kB BK252) hg (Kd.R_ne HO270.out BK252.out (by decide))); have n2_ := Am (hb); have n3_ := Am (ho); clear HO264; clear BK252; clear HB; clear HO270; have HO264 := n0_; have BK252 := n1_; have HB := n2_; have HO273 := n3_; clear n0_ n1_ n2_ n3_; clear ho hb hg hat))
                      go_roundg kj23
                      case measure => have := HK1.out; have := HK2.out; have := HK3.out; have := HJ16.out; have := HJ23.out; omega
                      case rel => exact ⟨(y271), (wrap64 (x13_3 + 1)), rq, H', ⟨by have := HK1.out; have := HK2.out; have := HK3.out; have := HJ16.out; have := HJ23.out; omega⟩, ⟨by (with_reducible repeat (first | apply Kd.R_alloc | apply Kd.R_drewN | apply Kd.R_drew)); exact Kd.R_mono HO273.out (fun _ hk => trivial)⟩, ⟨by repeat (first | (with_reducible first | exact HB.out | apply below_alloc | apply pw_below_drewN | apply below_drew1 | refine below_set ?_ GE252.out) | exact HB.out)⟩⟩
                     ·
                      rw [if_neg c39] at H
                      exact absurd H (by simp)
                    ·
                     rw [if_neg c38] at H
                     exact absurd H (by simp)
                   ·
                    replace c37 := Bool.eq_false_iff.mpr c37
                    subst c37
                    have H1 : (some (0, 3)) = some (r1, r2) := by rw [if_neg (show ¬ (false = true) by decide)] at H; exact H
                    clear H
                    have H := H1
                    clear H1
                    simp only [Option.some.injEq, Prod.mk.injEq] at H
                    obtain ⟨rfl, rfl⟩ := H
                    have hcz51_0 : wc.cell? ⟨gb252, 0, none⟩ = some (.int .i64 ((rd_T45 l0 x13_3).f0)) := (blk_cell BK252.out 0).trans rfl
                    have hcz51_1 : wc.cell? ⟨gb252, 1, none⟩ = some (.int .i64 ((rd_T45 l0 x13_3).f1)) := (blk_cell BK252.out 1).trans rfl
                    have hfz51_0 := blk_frozen BK252.out 0
                    have hfz51_1 := blk_frozen BK252.out 1
                    try go_wp2_with (first | ((with_reducible refine gate_callee (f := 23) rfl ?_); refine goesL_ (some 84) rfl rfl Try.func23 (by kernel_rfl) rfl #[.int .i64 ((rd_T45 l0 x13_3).f0)] rfl aq ?_; (with_reducible refine (surmiseref03_Takes.calls ((rd_T45 l0 x13_3).f0) t255 _ A30.out).mono ?_); rintro e w52 ⟨rfl, hb⟩; refine ⟨_, rfl, ?_⟩; have n0_ := Am (Kd.R_below (kR HO_12) hb); have n1_ := Am (blk_below (g := gb252) (o := .cells #[.int .i64 ((rd_T45 l0 x13_3).f0), .int .i64 ((rd_T45 l0 x13_3).f1)] 45 (0, 0)) (kB BK252) hb); have n2_ := Am (below_step (by repeat (first | (with_reducible first | exact HB.out | apply below_alloc | apply pw_below_drewN | apply below_drew1 | refine below_set ?_ GE252.out) | exact HB.out)) hb); clear HO_12; clear BK252; clear HB; have HO_12 := n0_; have BK252 := n1_; have HB := n2_; clear n0_ n1_ n2_; (try clear hb); (try clear hb2); (try clear hk); (try clear hi)))
                    have n0_ := Am (Kd.R_drew HO_12.out)
                    have n1_ := Am (blk_drew BK252.out)
                    have n2_ := Am (below_drew1 HB.out)
                    clear HO_12
                    clear BK252
                    clear HB
                    have HO_12 := n0_
                    have BK252 := n1_
                    have HB := n2_
                    clear n0_ n1_ n2_
                    obtain ⟨Ao54, co54, eo54⟩ := Kd.R_slice HO_12.out
                    (first | subst eo54 | (injection eo54 with f1_ f2_ f3_; have f4_ := f1_.symm; have f5_ := f3_.symm; clear f1_ f2_ f3_; subst f4_; subst f5_))
                    have q55 : ((ji32) : Int) ≤ ((x12_3.length : Int) : Int) := of_decide_eq_true az
                    obtain ⟨i055, hi055, _, hsz55, _⟩ := info_parts info3
                    have hroom55 : x12_3.length ≤ co54 := (Kd.R_reads' HO_12.out).2.1
                    have hC55 : Kd.C (Kd.int .i64) _ Ao54 x12_3.length x12_3 := (Kd.R_reads' HO_12.out).2.2
                    have q055 : (0 : Int) ≤ ((ji32) : Int) := of_decide_eq_true az
                    have hcut55 := cut_from (P := Try.prog) 28 3 .i64 Try.underlying28 hi055 1 hsz55 Ao54 x12_3.length co54 (ji32) q055 q55
                    have hr55 := Kd.C_drop (m := ((ji32) : Int).toNat) (c := co54) hC55 (by omega) hroom55
                    obtain ⟨A55, hA55⟩ : ∃ A1, A1 = (if co54 = ((ji32) : Int).toNat then Ao54 else (Ao54 : Option Addr).map (·.add (((ji32) : Int).toNat * 1))) := ⟨_, rfl⟩
                    obtain ⟨c55, hc55⟩ : ∃ c1, c1 = co54 - ((ji32) : Int).toNat := ⟨_, rfl⟩
                    have hy55 : y256.length = x12_3.length - ((ji32) : Int).toNat := (by rw [Ny256.out, List.length_drop] <;> omega)
                    rw [show (x12_3).drop ((ji32) : Int).toNat = y256 from Ny256.out.symm] at hr55
                    replace hr55 : Kd.C (Kd.int .i64) _ A55 y256.length y256 := (by rw [hA55]; exact hr55)
                    rw [← hy55, ← hA55, ← hc55] at hcut55
                    have HR259 := Am hr55
                    have HC259 := Am (show y256.length ≤ c55 from by rw [hy55, hc55]; exact Nat.sub_le_sub_right hroom55 _)
                    clear hr55 hC55 hroom55 hi055 hsz55 hc55
                    have KY55 := Am hy55
                    have KA55 := Am hA55
                    clear hy55 hA55
                    have KL55 := Am (show ((ji32) : Int).toNat ≤ x12_3.length from by omega)
                    replace q55 := eq_true q55
                    refine start_ (n := 14) (S := fun w' => w'.cell? ⟨gb252, 0, none⟩ = some (.int .i64 ((rd_T45 l0 x13_3).f0)) ∧ w'.cell? ⟨gb252, 1, none⟩ = some (.int .i64 ((rd_T45 l0 x13_3).f1))) (ds := []) #[false, false, false, false, false, false, false, false, false, false, false, false, false, false] (by kernel_rfl) rfl rfl ⟨(blk_cell BK252.out 0).trans rfl, (blk_cell BK252.out 1).trans rfl⟩ (fun hHeld => ?_); refine with_tabW surmiseref03_Eval.tab26 surmiseref03_Eval.bits26 (fun HT_ HW_ => ?_)
                    generalize w52.drew = w53 at HO_12 BK252 HB HR259 hHeld ⊢
                    refine pure_ (i := 0) (N := some 88) (v := ?_) (a' := ?_) #[true, false, false, false, false, false, false, false, false, false, false, false, false, false] rfl rfl (any_of HT_.out (by kernel_rfl)) (fun _ _ _ h => h) (Or.inl ⟨by rfl, ?_⟩) ?_ ?_
                    rotate_left
                    ·
                     intro w'
                     go_simp
                     with_reducible rfl
                    rotate_left
                    ·
                     simp only [Act.put, List.setIfInBounds_toArray, List.set_cons_zero, List.set_cons_succ, i64_w, i32_w]
                     rfl
                    refine pure_ (i := 2) (N := some 90) (v := ?_) (a' := ?_) #[true, false, true, false, false, false, false, false, false, false, false, false, false, false] rfl rfl (any_of HT_.out (by kernel_rfl)) (fun _ _ _ h => h) (Or.inl ⟨by rfl, ?_⟩) ?_ ?_
                    rotate_left
                    ·
                     intro w'
                     go_simp
                     with_reducible rfl
                    rotate_left
                    ·
                     simp only [Act.put, List.setIfInBounds_toArray, List.set_cons_zero, List.set_cons_succ, i64_w, i32_w]
                     rfl
                    refine pure_ (i := 3) (N := some 91) (v := ?_) (a' := ?_) #[true, false, true, true, false, false, false, false, false, false, false, false, false, false] rfl rfl (any_of HT_.out (by kernel_rfl)) (fun _ _ _ h => h) (Or.inl ⟨by rfl, ?_⟩) ?_ ?_
                    rotate_left
                    ·
                     intro w'
                     go_simp
                     with_reducible rfl
                    rotate_left
                    ·
                     simp only [Act.put, List.setIfInBounds_toArray, List.set_cons_zero, List.set_cons_succ, i64_w, i32_w]
                     rfl
                    refine pure_ (i := 4) (N := some 92) (v := ?_) (a' := ?_) #[true, false, true, true, true, false, false, false, false, false, false, false, false, false] rfl rfl (any_of HT_.out (by kernel_rfl)) (fun _ _ _ h => h) (Or.inl ⟨by rfl, ?_⟩) ?_ ?_
                    rotate_left
                    ·
                     intro w'
                     go_simp
                     with_reducible rfl
                    rotate_left
                    ·
                     simp only [Act.put, List.setIfInBounds_toArray, List.set_cons_zero, List.set_cons_succ, i64_w, i32_w]
                     rfl
                    refine pure_ (i := 5) (N := some 93) (v := ?_) (a' := ?_) #[true, false, true, true, true, true, false, false, false, false, false, false, false, false] rfl rfl (any_of HT_.out (by kernel_rfl)) (fun _ _ _ h => h) (Or.inl ⟨by rfl, ?_⟩) ?_ ?_
                    rotate_left
                    ·
                     intro w'
                     go_simp
                     with_reducible rfl
                    rotate_left
                    ·
                     simp only [Act.put, List.setIfInBounds_toArray, List.set_cons_zero, List.set_cons_succ, i64_w, i32_w]
                     rfl
                    refine pure_ (i := 6) (N := some 94) (v := ?_) (a' := ?_) #[true, false, true, true, true, true, true, false, false, false, false, false, false, false] rfl rfl (any_of HT_.out (by kernel_rfl)) (fun _ _ _ h => h) (Or.inl ⟨by rfl, ?_⟩) ?_ ?_
                    rotate_left
                    ·
                     intro w'
                     go_simp
                     with_reducible rfl
                    rotate_left
                    ·
                     simp only [Act.put, List.setIfInBounds_toArray, List.set_cons_zero, List.set_cons_succ, i64_w, i32_w]
                     rfl
                    refine pure_ (i := 7) (N := some 95) (v := ?_) (a' := ?_) #[true, false, true, true, true, true, true, true, false, false, false, false, false, false] rfl rfl (any_of HT_.out (by kernel_rfl)) (fun _ _ _ h => h) (Or.inl ⟨by rfl, ?_⟩) ?_ ?_
                    rotate_left
                    ·
                     intro w'
                     go_simp
                     with_reducible rfl
                    rotate_left
                    ·
                     simp only [Act.put, List.setIfInBounds_toArray, List.set_cons_zero, List.set_cons_succ, i64_w, i32_w]
                     rfl
                    refine take_ (i := 1) (N := some 89) (v := ?_) (a' := ?_) #[true, true, true, true, true, true, true, true, false, false, false, false, false, false] rfl rfl (take_ofW HT_.out HW_.out (by kernel_rfl)) (fun _ _ _ h => h) (Or.inl ⟨by rfl, ?_⟩) hHeld ?_ ?_
                    rotate_left
                    ·
                     rintro w' ⟨s0, s1⟩
                     go_simp
                     with_reducible rfl
                    rotate_left
                    ·
                     simp only [Act.put, List.setIfInBounds_toArray, List.set_cons_zero, List.set_cons_succ, i64_w, i32_w]
                     rfl
                    refine one_ (i := 8) (N := some 96) #[true, true, true, true, true, true, true, true, true, false, false, false, false, false] rfl rfl (one_of HT_.out (by kernel_rfl)) (by decide) (fun K hK => ?_)
                    refine goes_ Try.func27 (by kernel_rfl) rfl #[.int .i64 ((rd_T45 l0 x13_3).f0), .slice A55 y256.length c55] (by rfl) rfl rfl aq ?_
                    with_reducible refine (surmiseref03_Made.calls ((rd_T45 l0 x13_3).f0) _ _ y256 t260 false _ ?side1 ?side2 A35.out).mono ?_
                    (case side1 => repeat (first | exact (by repeat (first | (with_reducible exact HR259.out) | (with_reducible refine Kd.C_alloc ?_ _) | (with_reducible refine Kd.C_drewN ?_ _) | (with_reducible refine Kd.C_drew ?_) | exact HR259.out)) | (with_reducible refine Kd.C_alloc ?_ _) | (with_reducible refine Kd.C_drewN ?_ _) | (with_reducible refine Kd.C_drew ?_)))
                    (case side2 => exact HC259.out)
                    rintro e w56 ⟨rfl, hb⟩
                    refine ⟨_, rfl, ?_⟩
                    have n0_ := Am (Kd.R_below (kR HO_12) hb)
                    have n1_ := Am (blk_below (g := gb252) (o := .cells #[.int .i64 ((rd_T45 l0 x13_3).f0), .int .i64 ((rd_T45 l0 x13_3).f1)] 45 (0, 0)) (kB BK252) hb)
                    have n2_ := Am (Kd.C_below (by repeat (first | (with_reducible exact HR259.out) | (with_reducible refine Kd.C_alloc ?_ _) | (with_reducible refine Kd.C_drewN ?_ _) | (with_reducible refine Kd.C_drew ?_) | exact HR259.out)) hb)
                    have n3_ := Am (below_step (by repeat (first | (with_reducible first | exact HB.out | apply below_alloc | apply pw_below_drewN | apply below_drew1 | refine below_set ?_ GE252.out) | exact HB.out)) hb)
                    clear HO_12
                    clear BK252
                    clear HR259
                    clear HB
                    have HO_12 := n0_
                    have BK252 := n1_
                    have HR259 := n2_
                    have HB := n3_
                    clear n0_ n1_ n2_ n3_
                    (try clear hb)
                    (try clear hb2)
                    (try clear hk)
                    (try clear hi)
                    refine hK.out _ _ ⟨(blk_cell BK252.out 0).trans rfl, (blk_cell BK252.out 1).trans rfl⟩ (fun hHeld => ?_)
                    clear hK K
                    refine norm_ (a' := ?_) ?_ ?_
                    rotate_left
                    ·
                     show Act.put _ (some 96) _ = _
                     simp only [Act.put, List.setIfInBounds_toArray, List.set_cons_zero, List.set_cons_succ, i64_w, i32_w]
                     rfl
                    refine pure_ (i := 9) (N := some 87) (v := ?_) (a' := ?_) #[true, true, true, true, true, true, true, true, true, true, false, false, false, false] rfl rfl (any_of HT_.out (by kernel_rfl)) (fun _ _ _ h => h) (Or.inl ⟨by rfl, ?_⟩) ?_ ?_
                    rotate_left
                    ·
                     intro w'
                     go_simp
                     with_reducible rfl
                    rotate_left
                    ·
                     simp only [Act.put, List.setIfInBounds_toArray, List.set_cons_zero, List.set_cons_succ, i64_w, i32_w]
                     rfl
                    refine pure_ (i := 10) (N := some 97) (v := ?_) (a' := ?_) #[true, true, true, true, true, true, true, true, true, true, true, false, false, false] rfl rfl (any_of HT_.out (by kernel_rfl)) (fun _ _ _ h => h) (Or.inl ⟨by rfl, ?_⟩) ?_ ?_
                    rotate_left
                    ·
                     intro w'
                     go_simp
                     with_reducible rfl
                    rotate_left
                    ·
                     simp only [Act.put, List.setIfInBounds_toArray, List.set_cons_zero, List.set_cons_succ, i64_w, i32_w]
                     rfl
                    refine pure_ (i := 11) (N := some 98) (v := ?_) (a' := ?_) #[true, true, true, true, true, true, true, true, true, true, true, true, false, false] rfl rfl (any_of HT_.out (by kernel_rfl)) (fun _ _ _ h => h) (Or.inl ⟨by rfl, ?_⟩) ?_ ?_
                    rotate_left
                    ·
                     intro w'
                     go_simp
                     with_reducible rfl
                    rotate_left
                    ·
                     simp only [Act.put, List.setIfInBounds_toArray, List.set_cons_zero, List.set_cons_succ, i64_w, i32_w]
                     rfl
                    refine pure_ (i := 12) (N := some 15) (v := ?_) (a' := ?_) #[true, true, true, true, true, true, true, true, true, true, true, true, true, false] rfl rfl (any_of HT_.out (by kernel_rfl)) (fun _ _ _ h => h) (Or.inl ⟨by rfl, ?_⟩) ?_ ?_
                    rotate_left
                    ·
                     intro w'
                     go_simp
                     with_reducible rfl
                    rotate_left
                    ·
                     simp only [Act.put, List.setIfInBounds_toArray, List.set_cons_zero, List.set_cons_succ, i64_w, i32_w]
                     rfl
                    refine pure_ (i := 13) (N := some 16) (v := ?_) (a' := ?_) #[true, true, true, true, true, true, true, true, true, true, true, true, true, true] rfl rfl (any_of HT_.out (by kernel_rfl)) (fun _ _ _ h => h) (Or.inl ⟨by rfl, ?_⟩) ?_ ?_
                    rotate_left
                    ·
                     intro w'
                     go_simp
                     with_reducible rfl
                    rotate_left
                    ·
                     simp only [Act.put, List.setIfInBounds_toArray, List.set_cons_zero, List.set_cons_succ, i64_w, i32_w]
                     rfl
                    refine done_ (done_of HT_.out (by kernel_rfl)) ?_
                    have q57 : ((ji32) : Int) ≤ ((x12_3.length : Int) : Int) := of_decide_eq_true az
                    obtain ⟨i057, hi057, _, hsz57, _⟩ := info_parts info3
                    have hcut57 := cut_to (P := Try.prog) 28 3 .i64 Try.underlying28 hi057 Ao54 x12_3.length co54 (ji32) (of_decide_eq_true az) q57 (Kd.R_reads' HO_12.out).2.1
                    have hr57 := Kd.R_take (m := ((ji32) : Int).toNat) HO_12.out (by omega)
                    have hy57 : y262.length = ((ji32) : Int).toNat := (by rw [Ny262.out, List.length_take]; omega)
                    rw [← Ny262.out] at hr57
                    rw [← hy57] at hr57 hcut57
                    clear hy57 hi057 hsz57 HO_12
                    have HO264 := Am hr57
                    clear hr57
                    replace q57 := eq_true q57
                    try go_wp2
                    go_ret2
                    exact ⟨by first | rfl | (simp [errW_none, errW_some] <;> rfl) | (simp only [← hji32]; first | rfl | (simp [errW_none, errW_some] <;> rfl)) | (simp [*, errW_none, errW_some] <;> rfl), by repeat (first | (with_reducible first | exact HB.out | apply below_alloc | apply pw_below_drewN | apply below_drew1 | refine below_set ?_ GE252.out) | exact HB.out)⟩
                  ·
                   rw [if_neg c34] at H
                   exact absurd H (by simp)
                 ·
                  rw [if_neg c33] at H
                  exact absurd H (by simp)
                ·
                 rw [if_neg c31] at H
                 have c31b0 : decide (0 < t255) = false := decide_eq_false c31
                 clear c31
                 have H1 : ((some (([] : List Int) : List Int)).bind fun y274 => (if y274.length + x12_3.length < 17592186044416 then ((some (y274 ++ x12_3 : List Int)).bind fun y277 => (if y277.length < 17592186044416 then (surmiseref03_Eval.l2 kj23 l0 l1 l2 (y277 ++ [x15_23]) (wrap64 (x13_3 + 1))) else (none))) else (none))) = some (r1, r2) := by rw [if_pos rfl] at H; exact H
                 clear H
                 have H := H1
                 clear H1
                 obtain ⟨y274, hy274⟩ : ∃ y_ : List Int, y_ = (([] : List Int)) := ⟨_, rfl⟩
                 replace H : (if y274.length + x12_3.length < 17592186044416 then ((some (y274 ++ x12_3 : List Int)).bind fun y277 => (if y277.length < 17592186044416 then (surmiseref03_Eval.l2 kj23 l0 l1 l2 (y277 ++ [x15_23]) (wrap64 (x13_3 + 1))) else (none))) else (none)) = some (r1, r2) := by first | (rw [hy274]; with_reducible exact H) | (have H2_ := (Option.bind_some _ _).symm.trans H; rw [hy274]; with_reducible exact H2_) | (have H2_ := (Option.bind_some _ _).symm.trans H; with_reducible exact H2_) | with_reducible exact H | (rw [hy274]; exact H) | exact H
                 have Ny274 := Am hy274
                 clear hy274
                 by_cases c58 : y274.length + x12_3.length < 17592186044416
                 ·
                  rw [if_pos c58] at H
                  have LMc58 := Am c58
                  clear c58
                  obtain ⟨y277, hy277⟩ : ∃ y_ : List Int, y_ = (y274 ++ x12_3) := ⟨_, rfl⟩
                  replace H : (if y277.length < 17592186044416 then (surmiseref03_Eval.l2 kj23 l0 l1 l2 (y277 ++ [x15_23]) (wrap64 (x13_3 + 1))) else (none)) = some (r1, r2) := by first | (rw [hy277]; with_reducible exact H) | (have H2_ := (Option.bind_some _ _).symm.trans H; rw [hy277]; with_reducible exact H2_) | (have H2_ := (Option.bind_some _ _).symm.trans H; with_reducible exact H2_) | with_reducible exact H | (rw [hy277]; exact H) | exact H
                  have Ny277 := Am hy277
                  clear hy277
                  by_cases c59 : y277.length < 17592186044416
                  ·
                   rw [if_pos c59] at H
                   have LMc59 := Am c59
                   clear c59
                   obtain ⟨y280, hy280⟩ : ∃ y_ : List Int, y_ = (y277 ++ [x15_23]) := ⟨_, rfl⟩
                   replace H : (surmiseref03_Eval.l2 kj23 l0 l1 l2 y280 (wrap64 (x13_3 + 1))) = some (r1, r2) := by first | (rw [hy280]; with_reducible exact H) | (have H2_ := (Option.bind_some _ _).symm.trans H; rw [hy280]; with_reducible exact H2_) | (have H2_ := (Option.bind_some _ _).symm.trans H; with_reducible exact H2_) | with_reducible exact H | (rw [hy280]; exact H) | exact H
                   have Ny280 := Am hy280
                   clear hy280
                   have H' := Am H
                   clear H
                   have hcz60_0 : wc.cell? ⟨gb252, 0, none⟩ = some (.int .i64 ((rd_T45 l0 x13_3).f0)) := (blk_cell BK252.out 0).trans rfl
                   have hcz60_1 : wc.cell? ⟨gb252, 1, none⟩ = some (.int .i64 ((rd_T45 l0 x13_3).f1)) := (blk_cell BK252.out 1).trans rfl
                   have hfz60_0 := blk_frozen BK252.out 0
                   have hfz60_1 := blk_frozen BK252.out 1
                   go_wp2_with (first | ((with_reducible refine gate_callee (f := 23) rfl ?_); refine goesL_ (some 84) rfl rfl Try.func23 (by kernel_rfl) rfl #[.int .i64 ((rd_T45 l0 x13_3).f0)] rfl aq ?_; (with_reducible refine (surmiseref03_Takes.calls ((rd_T45 l0 x13_3).f0) t255 _ A30.out).mono ?_); rintro e w61 ⟨rfl, hb⟩; refine ⟨_, rfl, ?_⟩; have n0_ := Am (Kd.R_below (kR HO_12) hb); have n1_ := Am (blk_below (g := gb252) (o := .cells #[.int .i64 ((rd_T45 l0 x13_3).f0), .int .i64 ((rd_T45 l0 x13_3).f1)] 45 (0, 0)) (kB BK252) hb); have n2_ := Am (below_step (by repeat (first | (with_reducible first | exact HB.out | apply below_alloc | apply pw_below_drewN | apply below_drew1 | refine below_set ?_ GE252.out) | exact HB.out)) hb); clear HO_12; clear BK252; clear HB; have HO_12 := n0_; have BK252 := n1_; have HB := n2_; clear n0_ n1_ n2_; (try clear hb); (try clear hb2); (try clear hk); (try clear hi)) | ((with_reducible refine gate_dst (N := 107) rfl ?_); refine Kd.R_lit (Kd.int .i64) _ 3 ?hg (N := 107) ?hd (xs := ([] : List Int)) (inner := []) (ok := fun _ => True) (okp := fun _ => True) ?hr ?hp (fun _ hk => hk) trivial (Below.refl _ _) (Nat.le_refl _) (by simp) ?_; (case hd => rfl); (case hg => rfl); (case hr => first | (go_simp; done) | (go_simp; rfl)); (case hp => exact (Reps.none _ _)); intro v275 w62 ho63 hb hg_ hnew_; clear hg_ hnew_; (first | rw [← Ny274.out] at ho63 | (simp only [Int.reduceToNat] at ho63; rw [← Ny274.out] at ho63)); have n0_ := Am (Kd.R_elder' (kR HO_12) (Kd.R_base ho63) hb); have n1_ := Am (Kd.R_lower (Kd.R_new' ho63 (Kd.R_lt (kR HO_12))) (below_size (by repeat (first | (with_reducible first | exact HB.out | apply below_alloc | apply pw_below_drewN | apply below_drew1 | refine below_set ?_ GE252.out) | exact HB.out)))); have n2_ := Am (blk_below (g := gb252) (o := .cells #[.int .i64 ((rd_T45 l0 x13_3).f0), .int .i64 ((rd_T45 l0 x13_3).f1)] 45 (0, 0)) (kB BK252) hb); have n3_ := Am (below_step (by repeat (first | (with_reducible first | exact HB.out | apply below_alloc | apply pw_below_drewN | apply below_drew1 | refine below_set ?_ GE252.out) | exact HB.out)) hb); clear HO_12; clear BK252; clear HB; have HO_12 := n0_; have HO276 := n1_; have BK252 := n2_; have HB := n3_; clear n0_ n1_ n2_ n3_; clear hb ho63; obtain ⟨Ao65, co65, eo65⟩ := Kd.R_slice HO_12.out; subst eo65) | ((with_reducible refine gate_builtin (b := .append) (xs := #[.tmp 107, .tmp 108]) rfl ?_); at_builtin; refine Kd.R_append_rows (Kd.int .i64) (w0 := w) w.heap.size rfl (.tmp 107) (.tmp 108) 28 3 (.int .i64 0) 8 rfl Try.underlying28 info3 rfl (by decide) (by omega) v275 y274 x12_3 _ _ _ (fun k_ => some k_ ≠ (.slice Ao65 x12_3.length co65 : Value).ownBlock) (fun _ => False) rfl rfl ?aO ?aR (fun _ _ h => h) (fun _ h => h.elim) ?aF ?aB ?aS ?aL ?_; (case aR => repeat (first | exact (Kd.R_reads' HO_12.out).2.2 | (with_reducible refine Kd.C_alloc ?_ _) | (with_reducible refine Kd.C_drewN ?_ _) | (with_reducible refine Kd.C_drew ?_))); (case aB => exact (by repeat (first | (with_reducible first | exact HB.out | apply below_alloc | apply pw_below_drewN | apply below_drew1 | refine below_set ?_ GE252.out) | exact HB.out))); (case aF => exact (fun k_ hk => Kd.fresh' (Kd.R_lt (kR HO_12)) k_ hk)); (case aO => exact (by (with_reducible repeat (first | apply Kd.R_alloc | apply Kd.R_drewN | apply Kd.R_drew)); exact Kd.R_mono HO276.out (fun _ hk => hk.2))); (case aS => exact (below_size (by repeat (first | (with_reducible first | exact HB.out | apply below_alloc | apply pw_below_drewN | apply below_drew1 | refine below_set ?_ GE252.out) | exact HB.out)))); (case aL => have := LMc58.out; omega); intro v278 w64 ho hb hg hat; rw [← Ny277.out] at ho; have n0_ := Am (Kd.R_after (ok := (fun _ => True)) (kR HO_12) hg hat); have n1_ := Am (blk_grown (g := gb252) (o := .cells #[.int .i64 ((rd_T45 l0 x13_3).f0), .int .i64 ((rd_T45 l0 x13_3).f1)] 45 (0, 0)) (kB BK252) hg (Kd.R_ne HO276.out BK252.out (by decide))); have n2_ := Am (hb); have n3_ := Am (ho); clear HO_12; clear BK252; clear HB; clear HO276; have HO_12 := n0_; have BK252 := n1_; have HB := n2_; have HO279 := n3_; clear n0_ n1_ n2_ n3_; clear ho hb hg hat) | ((with_reducible refine gate_builtin (b := .append) (xs := #[.tmp 109, .tmp 111]) rfl ?_); at_builtin; refine Kd.R_append (Kd.int .i64) (w0 := w) w.heap.size rfl (.tmp 109) (.tmp 111) 28 3 (.int .i64 0) 8 rfl Try.underlying28 info3 rfl (by decide) (by omega) v278 y277 x15_23 [.int .i64 x15_23] (fun k_ => some k_ ≠ (.slice Ao65 x12_3.length co65 : Value).ownBlock) (fun _ => False) rfl rfl ?aP (fun _ hk => hk.elim) ?aF ?aO ?aB ?aS ?aL ?_; (case aP => exact rfl); (case aB => exact (by repeat (first | (with_reducible first | exact HB.out | apply below_alloc | apply pw_below_drewN | apply below_drew1 | refine below_set ?_ GE252.out) | exact HB.out))); (case aF => exact (fun k_ hk => Kd.fresh' (Kd.R_lt (kR HO_12)) k_ hk)); (case aO => exact (kR HO279)); (case aS => exact (below_size (by repeat (first | (with_reducible first | exact HB.out | apply below_alloc | apply pw_below_drewN | apply below_drew1 | refine below_set ?_ GE252.out) | exact HB.out)))); (case aL => have := LMc59.out; omega); intro v281 w66 ho hb hg hat; rw [← Ny280.out] at ho; have n0_ := Am (Kd.R_after (ok := (fun _ => True)) (kR HO_12) hg hat); have n1_ := Am (blk_grown (g := gb252) (o := .cells #[.int .i64 ((rd_T45 l0 x13_3).f0), .int .i64 ((rd_T45 l0 x13_3).f1)] 45 (0, 0)) (kB BK252) hg (Kd.R_ne HO279.out BK252.out (by decide))); have n2_ := Am (hb); have n3_ := Am (ho); clear HO_12; clear BK252; clear HB; clear HO279; have HO_12 := n0_; have BK252 := n1_; have HB := n2_; have HO282 := n3_; clear n0_ n1_ n2_ n3_; clear ho hb hg hat))
                   go_roundg kj23
                   case measure => have := HK1.out; have := HK2.out; have := HK3.out; have := HJ16.out; have := HJ23.out; omega
                   case rel => exact ⟨(y280), (wrap64 (x13_3 + 1)), rq, H', ⟨by have := HK1.out; have := HK2.out; have := HK3.out; have := HJ16.out; have := HJ23.out; omega⟩, ⟨by (with_reducible repeat (first | apply Kd.R_alloc | apply Kd.R_drewN | apply Kd.R_drew)); exact Kd.R_mono HO282.out (fun _ hk => trivial)⟩, ⟨by repeat (first | (with_reducible first | exact HB.out | apply below_alloc | apply pw_below_drewN | apply below_drew1 | refine below_set ?_ GE252.out) | exact HB.out)⟩⟩
                  ·
                   rw [if_neg c59] at H
                   exact absurd H (by simp)
                 ·
                  rw [if_neg c58] at H
                  exact absurd H (by simp)
           ·
            rw [if_neg c16] at H
            exact absurd H (by simp)
          ·
           rw [if_neg c15] at H
           have c15b0 : decide (x13_3 < (l0.length : Int)) = false := decide_eq_false c15
           clear c15
           by_cases c67 : 0 < (x12_3.length : Int)
           ·
            rw [if_pos c67] at H
            have c67b0 : decide (0 < (x12_3.length : Int)) = true := decide_eq_true c67
            have c67b1 : decide (0 < x12_3.length) = true := decide_eq_true (by omega)
            clear c67
            simp only [Option.some.injEq, Prod.mk.injEq] at H
            obtain ⟨rfl, rfl⟩ := H
            obtain ⟨Ao68, co68, eo68⟩ := Kd.R_slice HO_12.out
            subst eo68
            have p250 : 0 ≤ (0 : Int) := (by omega)
            have q250 : 0 < (x12_3.length : Int) := of_decide_eq_true az
            obtain ⟨ad250, e250, hx250_0⟩ := Kd.at_int (Kd.R_reads' HO_12.out).2.2 0 p250 q250
            cases e250
            have qi250 : (0 < x12_3.length) = True := eq_true (by omega)
            (try rw [show ((0 : Int)).toNat = 0 from rfl] at hx250_0)
            (try rw [Addr.add_zero'] at hx250_0)
            replace p250 := eq_true p250
            replace q250 := eq_true q250
            go_wp2
            go_ret2
            exact ⟨xq, bl⟩
           ·
            rw [if_neg c67] at H
            exact absurd H (by simp)
 ·
  rw [if_neg c5] at H
  have c5b0 : (t245 == 0) = false := beq_eq_false_iff_ne.mpr c5
  have c5b1 : (t245 != 0) = true := bne_iff_ne.mpr c5
  simp only [Option.some.injEq, Prod.mk.injEq] at H
  obtain ⟨rfl, rfl⟩ := H
  go_enter Try.func12, Try.ntmps12
  go_wp2_with (first | ((with_reducible refine gate_callee (f := 9) rfl ?_); refine goesL_ (some 24) rfl rfl Try.func9 (by kernel_rfl) rfl #[.slice A0 l0.length c0, .int .i64 (l1.length : Int), .int .i64 (l2.length : Int)] rfl aq ?_; (with_reducible refine (surmiseref03_Check.calls k _ _ l0 (l1.length : Int) (l2.length : Int) t244 t245 _ ?side1 ?side2 A4.out).mono ?_); (case side1 => repeat (first | exact HR0.out | (with_reducible refine Kd.C_alloc ?_ _) | (with_reducible refine Kd.C_drewN ?_ _) | (with_reducible refine Kd.C_drew ?_))); (case side2 => exact HC0.out); rintro e w69 ⟨rfl, hb⟩; refine ⟨_, rfl, ?_⟩; have n0_ := Am (below_step (bl) hb); clear HB; have HB := n0_; clear n0_; (try clear hb); (try clear hb2); (try clear hk); (try clear hi)))
  go_ret2
  exact ⟨xq, bl⟩

end Go.Proofs.Ythhnecbfcpmpbaa.PA
