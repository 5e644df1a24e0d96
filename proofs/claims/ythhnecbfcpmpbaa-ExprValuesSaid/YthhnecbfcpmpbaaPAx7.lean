-- Written by a program (wip/tools/gprint.py: a patched copy of the kit's print) and by hand, for this claim
import Derived.Test.YthhnecbfcpmpbaaPAx0
import Derived.Test.YthhnecbfcpmpbaaPAx2
import Derived.Test.YthhnecbfcpmpbaaPAx6
namespace Go.Proofs.Ythhnecbfcpmpbaa.PA
open Go.RowKit Go.Proofs.YthhnecbfcpmpbaaW.PrintWords Go.Proofs.YthhnecbfcpmpbaaW.PrintLast Go.Proofs.YthhnecbfcpmpbaaW.PrintMore
attribute [local go_sem] max2_int min2_int max_two min_two max_three min_three max_four min_four   -- for this text's walks alone
set_option linter.unusedVariables false
set_option linter.unusedSimpArgs false

/-! ### surmiseref03_Made: function 27 -/
def surmiseref03_Made.f (a0 : Int) (l1 : List Int) : Option (Int × Bool) := if a0 = 4 then (if 0 < (l1.length : Int) then (some (wrap64 (-(rd l1 0)), true)) else (none)) else (if a0 = 5 then (if 0 < (l1.length : Int) then ((surmiseref03_one.f ((rd l1 0) == 0)).bind fun t228 => (some (t228, true))) else (none)) else (if 0 < (l1.length : Int) then (if 1 < (l1.length : Int) then (if a0 = 6 then ((surmiseref03_Value.f (wrap64 ((rd l1 0) + (rd l1 1)))).bind fun t231 => (some (wrap64 ((rd l1 0) + (rd l1 1)), t231))) else (if a0 = 7 then ((surmiseref03_Value.f (wrap64 ((rd l1 0) - (rd l1 1)))).bind fun t232 => (some (wrap64 ((rd l1 0) - (rd l1 1)), t232))) else (if a0 = 8 then ((surmiseref03_Times.f (rd l1 0) (rd l1 1)).bind fun bt233 => (some (bt233.1, bt233.2))) else (if a0 = 9 then (some (mn (rd l1 0) (rd l1 1), true)) else (if a0 = 10 then (some (mx (rd l1 0) (rd l1 1), true)) else (if a0 = 11 then ((surmiseref03_one.f (decide ((rd l1 0) < (rd l1 1)))).bind fun t235 => (some (t235, true))) else (if a0 = 12 then (if (rd l1 0) < (rd l1 1) then ((surmiseref03_one.f true).bind fun t236 => (some (t236, true))) else ((surmiseref03_one.f ((rd l1 0) == (rd l1 1))).bind fun t237 => (some (t237, true)))) else (if a0 = 13 then ((surmiseref03_one.f ((rd l1 0) == (rd l1 1))).bind fun t238 => (some (t238, true))) else (if a0 = 14 then (if (rd l1 0) = 0 then ((surmiseref03_one.f false).bind fun t239 => (some (t239, true))) else ((surmiseref03_one.f ((rd l1 1) != 0)).bind fun t240 => (some (t240, true)))) else (if a0 = 15 then (if (rd l1 0) = 0 then ((surmiseref03_one.f ((rd l1 1) != 0)).bind fun t241 => (some (t241, true))) else ((surmiseref03_one.f true).bind fun t242 => (some (t242, true)))) else (if (rd l1 0) = 0 then (if 2 < (l1.length : Int) then (some (rd l1 2, true)) else (none)) else (some (rd l1 1, true))))))))))))) else (none)) else (none)))
set_option maxHeartbeats 8000000 in
set_option maxRecDepth 100000 in
theorem surmiseref03_Made.calls (a0 : Int) (A1 : Option Addr) (c1 : Nat) (l1 : List Int) (r1 : Int) (r2 : Bool) (w : World) (hr1 : Kd.C (Kd.int .i64) w A1 l1.length l1) (hc1 : l1.length ≤ c1) (h : surmiseref03_Made.f a0 l1 = some (r1, r2)) :
  Calls Try.prog 27 #[.int .i64 a0, .slice A1 l1.length c1] w fun e w' => e = .returned (.tuple #[.int .i64 r1, .bool r2]) ∧ Below w.heap.size w w' := by
 have HR1 := Am hr1
 have HC1 := Am hc1
 clear hr1 hc1
 have HB := Am (Below.refl w.heap.size w)
 have H : (if a0 = 4 then (if 0 < (l1.length : Int) then (some (wrap64 (-(rd l1 0)), true)) else (none)) else (if a0 = 5 then (if 0 < (l1.length : Int) then ((surmiseref03_one.f ((rd l1 0) == 0)).bind fun t228 => (some (t228, true))) else (none)) else (if 0 < (l1.length : Int) then (if 1 < (l1.length : Int) then (if a0 = 6 then ((surmiseref03_Value.f (wrap64 ((rd l1 0) + (rd l1 1)))).bind fun t231 => (some (wrap64 ((rd l1 0) + (rd l1 1)), t231))) else (if a0 = 7 then ((surmiseref03_Value.f (wrap64 ((rd l1 0) - (rd l1 1)))).bind fun t232 => (some (wrap64 ((rd l1 0) - (rd l1 1)), t232))) else (if a0 = 8 then ((surmiseref03_Times.f (rd l1 0) (rd l1 1)).bind fun bt233 => (some (bt233.1, bt233.2))) else (if a0 = 9 then (some (mn (rd l1 0) (rd l1 1), true)) else (if a0 = 10 then (some (mx (rd l1 0) (rd l1 1), true)) else (if a0 = 11 then ((surmiseref03_one.f (decide ((rd l1 0) < (rd l1 1)))).bind fun t235 => (some (t235, true))) else (if a0 = 12 then (if (rd l1 0) < (rd l1 1) then ((surmiseref03_one.f true).bind fun t236 => (some (t236, true))) else ((surmiseref03_one.f ((rd l1 0) == (rd l1 1))).bind fun t237 => (some (t237, true)))) else (if a0 = 13 then ((surmiseref03_one.f ((rd l1 0) == (rd l1 1))).bind fun t238 => (some (t238, true))) else (if a0 = 14 then (if (rd l1 0) = 0 then ((surmiseref03_one.f false).bind fun t239 => (some (t239, true))) else ((surmiseref03_one.f ((rd l1 1) != 0)).bind fun t240 => (some (t240, true)))) else (if a0 = 15 then (if (rd l1 0) = 0 then ((surmiseref03_one.f ((rd l1 1) != 0)).bind fun t241 => (some (t241, true))) else ((surmiseref03_one.f true).bind fun t242 => (some (t242, true)))) else (if (rd l1 0) = 0 then (if 2 < (l1.length : Int) then (some (rd l1 2, true)) else (none)) else (some (rd l1 1, true))))))))))))) else (none)) else (none)))) = some (r1, r2) := h
 clear h
 by_cases c3 : a0 = 4
 ·
  rw [if_pos c3] at H
  have c3b0 : (a0 == 4) = true := beq_iff_eq.mpr c3
  have c3b1 : (a0 != 4) = false := bne_eq_false_iff_eq.mpr c3
  clear c3
  by_cases c4 : 0 < (l1.length : Int)
  ·
   rw [if_pos c4] at H
   have c4b0 : decide (0 < (l1.length : Int)) = true := decide_eq_true c4
   have c4b1 : decide (0 < l1.length) = true := decide_eq_true (by omega)
   clear c4
   simp only [Option.some.injEq, Prod.mk.injEq] at H
   obtain ⟨rfl, rfl⟩ := H
   have p226 : 0 ≤ (0 : Int) := (by omega)
   have q226 : 0 < (l1.length : Int) := of_decide_eq_true az
   obtain ⟨ad226, e226, hx226_0⟩ := Kd.at_int HR1.out 0 p226 q226
   cases e226
   have qi226 : (0 < l1.length) = True := eq_true (by omega)
   (try rw [show ((0 : Int)).toNat = 0 from rfl] at hx226_0)
   (try rw [Addr.add_zero'] at hx226_0)
   replace p226 := eq_true p226
   replace q226 := eq_true q226
   go_enter Try.func27, Try.ntmps27
   go_wp2
   repeat (go_quiet (fail); try go_wp2)
   go_ret2
   exact ⟨xq, bl⟩
  ·
   rw [if_neg c4] at H
   exact absurd H (by simp)
 ·
  rw [if_neg c3] at H
  have c3b0 : (a0 == 4) = false := beq_eq_false_iff_ne.mpr c3
  have c3b1 : (a0 != 4) = true := bne_iff_ne.mpr c3
  by_cases c5 : a0 = 5
  ·
   rw [if_pos c5] at H
   have c5b0 : (a0 == 5) = true := beq_iff_eq.mpr c5
   have c5b1 : (a0 != 5) = false := bne_eq_false_iff_eq.mpr c5
   clear c5
   by_cases c6 : 0 < (l1.length : Int)
   ·
    rw [if_pos c6] at H
    have c6b0 : decide (0 < (l1.length : Int)) = true := decide_eq_true c6
    have c6b1 : decide (0 < l1.length) = true := decide_eq_true (by omega)
    clear c6
    replace H := Option.bind_eq_some_iff.mp H
    obtain ⟨t228, A70, H⟩ := H
    replace H : (some (t228, true)) = some (r1, r2) := H
    have A7 := Am A70
    clear A70
    simp only [Option.some.injEq, Prod.mk.injEq] at H
    obtain ⟨rfl, rfl⟩ := H
    have p227 : 0 ≤ (0 : Int) := (by omega)
    have q227 : 0 < (l1.length : Int) := of_decide_eq_true az
    obtain ⟨ad227, e227, hx227_0⟩ := Kd.at_int HR1.out 0 p227 q227
    cases e227
    have qi227 : (0 < l1.length) = True := eq_true (by omega)
    (try rw [show ((0 : Int)).toNat = 0 from rfl] at hx227_0)
    (try rw [Addr.add_zero'] at hx227_0)
    replace p227 := eq_true p227
    replace q227 := eq_true q227
    go_enter Try.func27, Try.ntmps27
    go_wp2_with (first | (go_at_call 33; (with_reducible refine (surmiseref03_one.calls ((rd l1 0) == 0) t228 _ A7.out).mono ?_); rintro e w' ⟨rfl, ⟨nd, rfl⟩⟩; (try first | exact ⟨rfl, _, World.drewN_drewN _ _ _⟩ | exact ⟨rfl, _, Eq.trans (World.drewN_drewN _ _ _) (congrArg (World.drewN _) (Nat.add_assoc _ _ _))⟩)))
    repeat (go_quiet (first | (go_at_call 33; (with_reducible refine (surmiseref03_one.calls ((rd l1 0) == 0) t228 _ A7.out).mono ?_); rintro e w' ⟨rfl, ⟨nd, rfl⟩⟩; (try first | exact ⟨rfl, _, World.drewN_drewN _ _ _⟩ | exact ⟨rfl, _, Eq.trans (World.drewN_drewN _ _ _) (congrArg (World.drewN _) (Nat.add_assoc _ _ _))⟩))); try go_wp2_with (first | (go_at_call 33; (with_reducible refine (surmiseref03_one.calls ((rd l1 0) == 0) t228 _ A7.out).mono ?_); rintro e w' ⟨rfl, ⟨nd, rfl⟩⟩; (try first | exact ⟨rfl, _, World.drewN_drewN _ _ _⟩ | exact ⟨rfl, _, Eq.trans (World.drewN_drewN _ _ _) (congrArg (World.drewN _) (Nat.add_assoc _ _ _))⟩))))
    go_ret2
    exact ⟨xq, bl⟩
   ·
    rw [if_neg c6] at H
    exact absurd H (by simp)
  ·
   rw [if_neg c5] at H
   have c5b0 : (a0 == 5) = false := beq_eq_false_iff_ne.mpr c5
   have c5b1 : (a0 != 5) = true := bne_iff_ne.mpr c5
   by_cases c8 : 0 < (l1.length : Int)
   ·
    rw [if_pos c8] at H
    have c8b0 : decide (0 < (l1.length : Int)) = true := decide_eq_true c8
    have c8b1 : decide (0 < l1.length) = true := decide_eq_true (by omega)
    clear c8
    by_cases c9 : 1 < (l1.length : Int)
    ·
     rw [if_pos c9] at H
     have c9b0 : decide (1 < (l1.length : Int)) = true := decide_eq_true c9
     have c9b1 : decide (1 < l1.length) = true := decide_eq_true (by omega)
     clear c9
     by_cases c10 : a0 = 6
     ·
      rw [if_pos c10] at H
      have c10b0 : (a0 == 6) = true := beq_iff_eq.mpr c10
      have c10b1 : (a0 != 6) = false := bne_eq_false_iff_eq.mpr c10
      clear c10
      replace H := Option.bind_eq_some_iff.mp H
      obtain ⟨t231, A110, H⟩ := H
      replace H : (some (wrap64 ((rd l1 0) + (rd l1 1)), t231)) = some (r1, r2) := H
      have A11 := Am A110
      clear A110
      simp only [Option.some.injEq, Prod.mk.injEq] at H
      obtain ⟨rfl, rfl⟩ := H
      have p229 : 0 ≤ (0 : Int) := (by omega)
      have q229 : 0 < (l1.length : Int) := of_decide_eq_true az
      obtain ⟨ad229, e229, hx229_0⟩ := Kd.at_int HR1.out 0 p229 q229
      cases e229
      have qi229 : (0 < l1.length) = True := eq_true (by omega)
      (try rw [show ((0 : Int)).toNat = 0 from rfl] at hx229_0)
      (try rw [Addr.add_zero'] at hx229_0)
      replace p229 := eq_true p229
      replace q229 := eq_true q229
      have p230 : 0 ≤ (1 : Int) := (by omega)
      have q230 : 1 < (l1.length : Int) := of_decide_eq_true az
      obtain ⟨ad230, e230, hx230_0⟩ := Kd.at_int HR1.out 1 p230 q230
      obtain rfl : ad229 = ad230 := (by injection e230)
      (try simp only [show (1 : Int).toNat = 1 from rfl, Nat.reduceMul, Nat.reduceEqDiff, Go.Addr.add, ↓reduceIte] at hx230_0)
      have qi230 : (1 < l1.length) = True := eq_true (by omega)
      (try rw [show ((1 : Int)).toNat = 1 from rfl] at hx230_0)
      replace p230 := eq_true p230
      replace q230 := eq_true q230
      go_enter Try.func27, Try.ntmps27
      go_wp2_with (first | (go_at_call 20; (with_reducible refine (surmiseref03_Value.calls (wrap64 ((rd l1 0) + (rd l1 1))) t231 _ A11.out).mono ?_); rintro e w' ⟨rfl, ⟨nd, rfl⟩⟩; (try first | exact ⟨rfl, _, World.drewN_drewN _ _ _⟩ | exact ⟨rfl, _, Eq.trans (World.drewN_drewN _ _ _) (congrArg (World.drewN _) (Nat.add_assoc _ _ _))⟩)))
      repeat (go_quiet (first | (go_at_call 20; (with_reducible refine (surmiseref03_Value.calls (wrap64 ((rd l1 0) + (rd l1 1))) t231 _ A11.out).mono ?_); rintro e w' ⟨rfl, ⟨nd, rfl⟩⟩; (try first | exact ⟨rfl, _, World.drewN_drewN _ _ _⟩ | exact ⟨rfl, _, Eq.trans (World.drewN_drewN _ _ _) (congrArg (World.drewN _) (Nat.add_assoc _ _ _))⟩))); try go_wp2_with (first | (go_at_call 20; (with_reducible refine (surmiseref03_Value.calls (wrap64 ((rd l1 0) + (rd l1 1))) t231 _ A11.out).mono ?_); rintro e w' ⟨rfl, ⟨nd, rfl⟩⟩; (try first | exact ⟨rfl, _, World.drewN_drewN _ _ _⟩ | exact ⟨rfl, _, Eq.trans (World.drewN_drewN _ _ _) (congrArg (World.drewN _) (Nat.add_assoc _ _ _))⟩))))
      go_ret2
      exact ⟨xq, bl⟩
     ·
      rw [if_neg c10] at H
      have c10b0 : (a0 == 6) = false := beq_eq_false_iff_ne.mpr c10
      have c10b1 : (a0 != 6) = true := bne_iff_ne.mpr c10
      by_cases c12 : a0 = 7
      ·
       rw [if_pos c12] at H
       have c12b0 : (a0 == 7) = true := beq_iff_eq.mpr c12
       have c12b1 : (a0 != 7) = false := bne_eq_false_iff_eq.mpr c12
       clear c12
       replace H := Option.bind_eq_some_iff.mp H
       obtain ⟨t232, A130, H⟩ := H
       replace H : (some (wrap64 ((rd l1 0) - (rd l1 1)), t232)) = some (r1, r2) := H
       have A13 := Am A130
       clear A130
       simp only [Option.some.injEq, Prod.mk.injEq] at H
       obtain ⟨rfl, rfl⟩ := H
       have p229 : 0 ≤ (0 : Int) := (by omega)
       have q229 : 0 < (l1.length : Int) := of_decide_eq_true az
       obtain ⟨ad229, e229, hx229_0⟩ := Kd.at_int HR1.out 0 p229 q229
       cases e229
       have qi229 : (0 < l1.length) = True := eq_true (by omega)
       (try rw [show ((0 : Int)).toNat = 0 from rfl] at hx229_0)
       (try rw [Addr.add_zero'] at hx229_0)
       replace p229 := eq_true p229
       replace q229 := eq_true q229
       have p230 : 0 ≤ (1 : Int) := (by omega)
       have q230 : 1 < (l1.length : Int) := of_decide_eq_true az
       obtain ⟨ad230, e230, hx230_0⟩ := Kd.at_int HR1.out 1 p230 q230
       obtain rfl : ad229 = ad230 := (by injection e230)
       (try simp only [show (1 : Int).toNat = 1 from rfl, Nat.reduceMul, Nat.reduceEqDiff, Go.Addr.add, ↓reduceIte] at hx230_0)
       have qi230 : (1 < l1.length) = True := eq_true (by omega)
       (try rw [show ((1 : Int)).toNat = 1 from rfl] at hx230_0)
       replace p230 := eq_true p230
       replace q230 := eq_true q230
       go_enter Try.func27, Try.ntmps27
       go_wp2_with (first | (go_at_call 20; (with_reducible refine (surmiseref03_Value.calls (wrap64 ((rd l1 0) - (rd l1 1))) t232 _ A13.out).mono ?_); rintro e w' ⟨rfl, ⟨nd, rfl⟩⟩; (try first | exact ⟨rfl, _, World.drewN_drewN _ _ _⟩ | exact ⟨rfl, _, Eq.trans (World.drewN_drewN _ _ _) (congrArg (World.drewN _) (Nat.add_assoc _ _ _))⟩)))
       repeat (go_quiet (first | (go_at_call 20; (with_reducible refine (surmiseref03_Value.calls (wrap64 ((rd l1 0) - (rd l1 1))) t232 _ A13.out).mono ?_); rintro e w' ⟨rfl, ⟨nd, rfl⟩⟩; (try first | exact ⟨rfl, _, World.drewN_drewN _ _ _⟩ | exact ⟨rfl, _, Eq.trans (World.drewN_drewN _ _ _) (congrArg (World.drewN _) (Nat.add_assoc _ _ _))⟩))); try go_wp2_with (first | (go_at_call 20; (with_reducible refine (surmiseref03_Value.calls (wrap64 ((rd l1 0) - (rd l1 1))) t232 _ A13.out).mono ?_); rintro e w' ⟨rfl, ⟨nd, rfl⟩⟩; (try first | exact ⟨rfl, _, World.drewN_drewN _ _ _⟩ | exact ⟨rfl, _, Eq.trans (World.drewN_drewN _ _ _) (congrArg (World.drewN _) (Nat.add_assoc _ _ _))⟩))))
       go_ret2
       exact ⟨xq, bl⟩
      ·
       rw [if_neg c12] at H
       have c12b0 : (a0 == 7) = false := beq_eq_false_iff_ne.mpr c12
       have c12b1 : (a0 != 7) = true := bne_iff_ne.mpr c12
       by_cases c14 : a0 = 8
       ·
        rw [if_pos c14] at H
        have c14b0 : (a0 == 8) = true := beq_iff_eq.mpr c14
        have c14b1 : (a0 != 8) = false := bne_eq_false_iff_eq.mpr c14
        clear c14
        replace H := Option.bind_eq_some_iff.mp H
        obtain ⟨⟨t233, t234⟩, A150, H⟩ := H
        replace H : (some (t233, t234)) = some (r1, r2) := H
        have A15 := Am A150
        clear A150
        simp only [Option.some.injEq, Prod.mk.injEq] at H
        obtain ⟨rfl, rfl⟩ := H
        have p229 : 0 ≤ (0 : Int) := (by omega)
        have q229 : 0 < (l1.length : Int) := of_decide_eq_true az
        obtain ⟨ad229, e229, hx229_0⟩ := Kd.at_int HR1.out 0 p229 q229
        cases e229
        have qi229 : (0 < l1.length) = True := eq_true (by omega)
        (try rw [show ((0 : Int)).toNat = 0 from rfl] at hx229_0)
        (try rw [Addr.add_zero'] at hx229_0)
        replace p229 := eq_true p229
        replace q229 := eq_true q229
        have p230 : 0 ≤ (1 : Int) := (by omega)
        have q230 : 1 < (l1.length : Int) := of_decide_eq_true az
        obtain ⟨ad230, e230, hx230_0⟩ := Kd.at_int HR1.out 1 p230 q230
        obtain rfl : ad229 = ad230 := (by injection e230)
        (try simp only [show (1 : Int).toNat = 1 from rfl, Nat.reduceMul, Nat.reduceEqDiff, Go.Addr.add, ↓reduceIte] at hx230_0)
        have qi230 : (1 < l1.length) = True := eq_true (by omega)
        (try rw [show ((1 : Int)).toNat = 1 from rfl] at hx230_0)
        replace p230 := eq_true p230
        replace q230 := eq_true q230
        go_enter Try.func27, Try.ntmps27
        go_wp2_with (first | (go_at_call 34; (with_reducible refine (surmiseref03_Times.calls (rd l1 0) (rd l1 1) t233 t234 _ A15.out).mono ?_); rintro e w' ⟨rfl, ⟨nd, rfl⟩⟩; (try first | exact ⟨rfl, _, World.drewN_drewN _ _ _⟩ | exact ⟨rfl, _, Eq.trans (World.drewN_drewN _ _ _) (congrArg (World.drewN _) (Nat.add_assoc _ _ _))⟩)))
        repeat (go_quiet (first | (go_at_call 34; (with_reducible refine (surmiseref03_Times.calls (rd l1 0) (rd l1 1) t233 t234 _ A15.out).mono ?_); rintro e w' ⟨rfl, ⟨nd, rfl⟩⟩; (try first | exact ⟨rfl, _, World.drewN_drewN _ _ _⟩ | exact ⟨rfl, _, Eq.trans (World.drewN_drewN _ _ _) (congrArg (World.drewN _) (Nat.add_assoc _ _ _))⟩))); try go_wp2_with (first | (go_at_call 34; (with_reducible refine (surmiseref03_Times.calls (rd l1 0) (rd l1 1) t233 t234 _ A15.out).mono ?_); rintro e w' ⟨rfl, ⟨nd, rfl⟩⟩; (try first | exact ⟨rfl, _, World.drewN_drewN _ _ _⟩ | exact ⟨rfl, _, Eq.trans (World.drewN_drewN _ _ _) (congrArg (World.drewN _) (Nat.add_assoc _ _ _))⟩))))
        go_ret2
        exact ⟨xq, bl⟩
       ·
        rw [if_neg c14] at H
        have c14b0 : (a0 == 8) = false := beq_eq_false_iff_ne.mpr c14
        have c14b1 : (a0 != 8) = true := bne_iff_ne.mpr c14
        by_cases c16 : a0 = 9
        ·
         rw [if_pos c16] at H
         have c16b0 : (a0 == 9) = true := beq_iff_eq.mpr c16
         have c16b1 : (a0 != 9) = false := bne_eq_false_iff_eq.mpr c16
         clear c16
         obtain ⟨ji17, hji17⟩ : ∃ j_ : Int, (mn (rd l1 0) (rd l1 1)) = j_ := ⟨_, rfl⟩
         replace H : (some (ji17, true)) = some (r1, r2) := by first | (rw [hji17] at H; exact H) | (simp only [hji17] at H ⊢; exact H)
         have hji17_ : (if (rd l1 1) < (rd l1 0) then (rd l1 1) else (rd l1 0)) = ji17 := hji17
         simp only [Option.some.injEq, Prod.mk.injEq] at H
         obtain ⟨rfl, rfl⟩ := H
         have p229 : 0 ≤ (0 : Int) := (by omega)
         have q229 : 0 < (l1.length : Int) := of_decide_eq_true az
         obtain ⟨ad229, e229, hx229_0⟩ := Kd.at_int HR1.out 0 p229 q229
         cases e229
         have qi229 : (0 < l1.length) = True := eq_true (by omega)
         (try rw [show ((0 : Int)).toNat = 0 from rfl] at hx229_0)
         (try rw [Addr.add_zero'] at hx229_0)
         replace p229 := eq_true p229
         replace q229 := eq_true q229
         have p230 : 0 ≤ (1 : Int) := (by omega)
         have q230 : 1 < (l1.length : Int) := of_decide_eq_true az
         obtain ⟨ad230, e230, hx230_0⟩ := Kd.at_int HR1.out 1 p230 q230
         obtain rfl : ad229 = ad230 := (by injection e230)
         (try simp only [show (1 : Int).toNat = 1 from rfl, Nat.reduceMul, Nat.reduceEqDiff, Go.Addr.add, ↓reduceIte] at hx230_0)
         have qi230 : (1 < l1.length) = True := eq_true (by omega)
         (try rw [show ((1 : Int)).toNat = 1 from rfl] at hx230_0)
         replace p230 := eq_true p230
         replace q230 := eq_true q230
         go_enter Try.func27, Try.ntmps27
         go_wp2
         repeat (go_quiet (fail); try go_wp2)
         go_ret2
         exact ⟨by first | rfl | (simp [errW_none, errW_some] <;> rfl) | (simp only [← hji17]; first | rfl | (simp [errW_none, errW_some] <;> rfl)) | (simp [*, errW_none, errW_some] <;> rfl), bl⟩
        ·
         rw [if_neg c16] at H
         have c16b0 : (a0 == 9) = false := beq_eq_false_iff_ne.mpr c16
         have c16b1 : (a0 != 9) = true := bne_iff_ne.mpr c16
         by_cases c18 : a0 = 10
         ·
          rw [if_pos c18] at H
          have c18b0 : (a0 == 10) = true := beq_iff_eq.mpr c18
          have c18b1 : (a0 != 10) = false := bne_eq_false_iff_eq.mpr c18
          clear c18
          obtain ⟨ji19, hji19⟩ : ∃ j_ : Int, (mx (rd l1 0) (rd l1 1)) = j_ := ⟨_, rfl⟩
          replace H : (some (ji19, true)) = some (r1, r2) := by first | (rw [hji19] at H; exact H) | (simp only [hji19] at H ⊢; exact H)
          have hji19_ : (if (rd l1 0) < (rd l1 1) then (rd l1 1) else (rd l1 0)) = ji19 := hji19
          simp only [Option.some.injEq, Prod.mk.injEq] at H
          obtain ⟨rfl, rfl⟩ := H
          have p229 : 0 ≤ (0 : Int) := (by omega)
          have q229 : 0 < (l1.length : Int) := of_decide_eq_true az
          obtain ⟨ad229, e229, hx229_0⟩ := Kd.at_int HR1.out 0 p229 q229
          cases e229
          have qi229 : (0 < l1.length) = True := eq_true (by omega)
          (try rw [show ((0 : Int)).toNat = 0 from rfl] at hx229_0)
          (try rw [Addr.add_zero'] at hx229_0)
          replace p229 := eq_true p229
          replace q229 := eq_true q229
          have p230 : 0 ≤ (1 : Int) := (by omega)
          have q230 : 1 < (l1.length : Int) := of_decide_eq_true az
          obtain ⟨ad230, e230, hx230_0⟩ := Kd.at_int HR1.out 1 p230 q230
          obtain rfl : ad229 = ad230 := (by injection e230)
          (try simp only [show (1 : Int).toNat = 1 from rfl, Nat.reduceMul, Nat.reduceEqDiff, Go.Addr.add, ↓reduceIte] at hx230_0)
          have qi230 : (1 < l1.length) = True := eq_true (by omega)
          (try rw [show ((1 : Int)).toNat = 1 from rfl] at hx230_0)
          replace p230 := eq_true p230
          replace q230 := eq_true q230
          go_enter Try.func27, Try.ntmps27
          go_wp2
          repeat (go_quiet (fail); try go_wp2)
          go_ret2
          exact ⟨by first | rfl | (simp [errW_none, errW_some] <;> rfl) | (simp only [← hji19]; first | rfl | (simp [errW_none, errW_some] <;> rfl)) | (simp [*, errW_none, errW_some] <;> rfl), bl⟩
         ·
          rw [if_neg c18] at H
          have c18b0 : (a0 == 10) = false := beq_eq_false_iff_ne.mpr c18
          have c18b1 : (a0 != 10) = true := bne_iff_ne.mpr c18
          by_cases c20 : a0 = 11
          ·
           rw [if_pos c20] at H
           have c20b0 : (a0 == 11) = true := beq_iff_eq.mpr c20
           have c20b1 : (a0 != 11) = false := bne_eq_false_iff_eq.mpr c20
           clear c20
           replace H := Option.bind_eq_some_iff.mp H
           obtain ⟨t235, A210, H⟩ := H
           replace H : (some (t235, true)) = some (r1, r2) := H
           have A21 := Am A210
           clear A210
           simp only [Option.some.injEq, Prod.mk.injEq] at H
           obtain ⟨rfl, rfl⟩ := H
           have p229 : 0 ≤ (0 : Int) := (by omega)
           have q229 : 0 < (l1.length : Int) := of_decide_eq_true az
           obtain ⟨ad229, e229, hx229_0⟩ := Kd.at_int HR1.out 0 p229 q229
           cases e229
           have qi229 : (0 < l1.length) = True := eq_true (by omega)
           (try rw [show ((0 : Int)).toNat = 0 from rfl] at hx229_0)
           (try rw [Addr.add_zero'] at hx229_0)
           replace p229 := eq_true p229
           replace q229 := eq_true q229
           have p230 : 0 ≤ (1 : Int) := (by omega)
           have q230 : 1 < (l1.length : Int) := of_decide_eq_true az
           obtain ⟨ad230, e230, hx230_0⟩ := Kd.at_int HR1.out 1 p230 q230
           obtain rfl : ad229 = ad230 := (by injection e230)
           (try simp only [show (1 : Int).toNat = 1 from rfl, Nat.reduceMul, Nat.reduceEqDiff, Go.Addr.add, ↓reduceIte] at hx230_0)
           have qi230 : (1 < l1.length) = True := eq_true (by omega)
           (try rw [show ((1 : Int)).toNat = 1 from rfl] at hx230_0)
           replace p230 := eq_true p230
           replace q230 := eq_true q230
           go_enter Try.func27, Try.ntmps27
           go_wp2_with (first | (go_at_call 33; (with_reducible refine (surmiseref03_one.calls (decide ((rd l1 0) < (rd l1 1))) t235 _ A21.out).mono ?_); rintro e w' ⟨rfl, ⟨nd, rfl⟩⟩; (try first | exact ⟨rfl, _, World.drewN_drewN _ _ _⟩ | exact ⟨rfl, _, Eq.trans (World.drewN_drewN _ _ _) (congrArg (World.drewN _) (Nat.add_assoc _ _ _))⟩)))
           repeat (go_quiet (first | (go_at_call 33; (with_reducible refine (surmiseref03_one.calls (decide ((rd l1 0) < (rd l1 1))) t235 _ A21.out).mono ?_); rintro e w' ⟨rfl, ⟨nd, rfl⟩⟩; (try first | exact ⟨rfl, _, World.drewN_drewN _ _ _⟩ | exact ⟨rfl, _, Eq.trans (World.drewN_drewN _ _ _) (congrArg (World.drewN _) (Nat.add_assoc _ _ _))⟩))); try go_wp2_with (first | (go_at_call 33; (with_reducible refine (surmiseref03_one.calls (decide ((rd l1 0) < (rd l1 1))) t235 _ A21.out).mono ?_); rintro e w' ⟨rfl, ⟨nd, rfl⟩⟩; (try first | exact ⟨rfl, _, World.drewN_drewN _ _ _⟩ | exact ⟨rfl, _, Eq.trans (World.drewN_drewN _ _ _) (congrArg (World.drewN _) (Nat.add_assoc _ _ _))⟩))))
           go_ret2
           exact ⟨xq, bl⟩
          ·
           rw [if_neg c20] at H
           have c20b0 : (a0 == 11) = false := beq_eq_false_iff_ne.mpr c20
           have c20b1 : (a0 != 11) = true := bne_iff_ne.mpr c20
           by_cases c22 : a0 = 12
           ·
            rw [if_pos c22] at H
            have c22b0 : (a0 == 12) = true := beq_iff_eq.mpr c22
            have c22b1 : (a0 != 12) = false := bne_eq_false_iff_eq.mpr c22
            clear c22
            by_cases c23 : (rd l1 0) < (rd l1 1)
            ·
             rw [if_pos c23] at H
             have c23b0 : decide ((rd l1 0) < (rd l1 1)) = true := decide_eq_true c23
             clear c23
             replace H := Option.bind_eq_some_iff.mp H
             obtain ⟨t236, A240, H⟩ := H
             replace H : (some (t236, true)) = some (r1, r2) := H
             have A24 := Am A240
             clear A240
             simp only [Option.some.injEq, Prod.mk.injEq] at H
             obtain ⟨rfl, rfl⟩ := H
             have p229 : 0 ≤ (0 : Int) := (by omega)
             have q229 : 0 < (l1.length : Int) := of_decide_eq_true az
             obtain ⟨ad229, e229, hx229_0⟩ := Kd.at_int HR1.out 0 p229 q229
             cases e229
             have qi229 : (0 < l1.length) = True := eq_true (by omega)
             (try rw [show ((0 : Int)).toNat = 0 from rfl] at hx229_0)
             (try rw [Addr.add_zero'] at hx229_0)
             replace p229 := eq_true p229
             replace q229 := eq_true q229
             have p230 : 0 ≤ (1 : Int) := (by omega)
             have q230 : 1 < (l1.length : Int) := of_decide_eq_true az
             obtain ⟨ad230, e230, hx230_0⟩ := Kd.at_int HR1.out 1 p230 q230
             obtain rfl : ad229 = ad230 := (by injection e230)
             (try simp only [show (1 : Int).toNat = 1 from rfl, Nat.reduceMul, Nat.reduceEqDiff, Go.Addr.add, ↓reduceIte] at hx230_0)
             have qi230 : (1 < l1.length) = True := eq_true (by omega)
             (try rw [show ((1 : Int)).toNat = 1 from rfl] at hx230_0)
             replace p230 := eq_true p230
             replace q230 := eq_true q230
             go_enter Try.func27, Try.ntmps27
             go_wp2_with (first | (go_at_call 33; (with_reducible refine (surmiseref03_one.calls true t236 _ A24.out).mono ?_); rintro e w' ⟨rfl, ⟨nd, rfl⟩⟩; (try first | exact ⟨rfl, _, World.drewN_drewN _ _ _⟩ | exact ⟨rfl, _, Eq.trans (World.drewN_drewN _ _ _) (congrArg (World.drewN _) (Nat.add_assoc _ _ _))⟩)))
             repeat (go_quiet (first | (go_at_call 33; (with_reducible refine (surmiseref03_one.calls true t236 _ A24.out).mono ?_); rintro e w' ⟨rfl, ⟨nd, rfl⟩⟩; (try first | exact ⟨rfl, _, World.drewN_drewN _ _ _⟩ | exact ⟨rfl, _, Eq.trans (World.drewN_drewN _ _ _) (congrArg (World.drewN _) (Nat.add_assoc _ _ _))⟩))); try go_wp2_with (first | (go_at_call 33; (with_reducible refine (surmiseref03_one.calls true t236 _ A24.out).mono ?_); rintro e w' ⟨rfl, ⟨nd, rfl⟩⟩; (try first | exact ⟨rfl, _, World.drewN_drewN _ _ _⟩ | exact ⟨rfl, _, Eq.trans (World.drewN_drewN _ _ _) (congrArg (World.drewN _) (Nat.add_assoc _ _ _))⟩))))
             go_ret2
             exact ⟨xq, bl⟩
            ·
             rw [if_neg c23] at H
             have c23b0 : decide ((rd l1 0) < (rd l1 1)) = false := decide_eq_false c23
             clear c23
             replace H := Option.bind_eq_some_iff.mp H
             obtain ⟨t237, A250, H⟩ := H
             replace H : (some (t237, true)) = some (r1, r2) := H
             have A25 := Am A250
             clear A250
             simp only [Option.some.injEq, Prod.mk.injEq] at H
             obtain ⟨rfl, rfl⟩ := H
             have p229 : 0 ≤ (0 : Int) := (by omega)
             have q229 : 0 < (l1.length : Int) := of_decide_eq_true az
             obtain ⟨ad229, e229, hx229_0⟩ := Kd.at_int HR1.out 0 p229 q229
             cases e229
             have qi229 : (0 < l1.length) = True := eq_true (by omega)
             (try rw [show ((0 : Int)).toNat = 0 from rfl] at hx229_0)
             (try rw [Addr.add_zero'] at hx229_0)
             replace p229 := eq_true p229
             replace q229 := eq_true q229
             have p230 : 0 ≤ (1 : Int) := (by omega)
             have q230 : 1 < (l1.length : Int) := of_decide_eq_true az
             obtain ⟨ad230, e230, hx230_0⟩ := Kd.at_int HR1.out 1 p230 q230
             obtain rfl : ad229 = ad230 := (by injection e230)
             (try simp only [show (1 : Int).toNat = 1 from rfl, Nat.reduceMul, Nat.reduceEqDiff, Go.Addr.add, ↓reduceIte] at hx230_0)
             have qi230 : (1 < l1.length) = True := eq_true (by omega)
             (try rw [show ((1 : Int)).toNat = 1 from rfl] at hx230_0)
             replace p230 := eq_true p230
             replace q230 := eq_true q230
             go_enter Try.func27, Try.ntmps27
             go_wp2_with (first | (go_at_call 33; (with_reducible refine (surmiseref03_one.calls ((rd l1 0) == (rd l1 1)) t237 _ A25.out).mono ?_); rintro e w' ⟨rfl, ⟨nd, rfl⟩⟩; (try first | exact ⟨rfl, _, World.drewN_drewN _ _ _⟩ | exact ⟨rfl, _, Eq.trans (World.drewN_drewN _ _ _) (congrArg (World.drewN _) (Nat.add_assoc _ _ _))⟩)))
             repeat (go_quiet (first | (go_at_call 33; (with_reducible refine (surmiseref03_one.calls ((rd l1 0) == (rd l1 1)) t237 _ A25.out).mono ?_); rintro e w' ⟨rfl, ⟨nd, rfl⟩⟩; (try first | exact ⟨rfl, _, World.drewN_drewN _ _ _⟩ | exact ⟨rfl, _, Eq.trans (World.drewN_drewN _ _ _) (congrArg (World.drewN _) (Nat.add_assoc _ _ _))⟩))); try go_wp2_with (first | (go_at_call 33; (with_reducible refine (surmiseref03_one.calls ((rd l1 0) == (rd l1 1)) t237 _ A25.out).mono ?_); rintro e w' ⟨rfl, ⟨nd, rfl⟩⟩; (try first | exact ⟨rfl, _, World.drewN_drewN _ _ _⟩ | exact ⟨rfl, _, Eq.trans (World.drewN_drewN _ _ _) (congrArg (World.drewN _) (Nat.add_assoc _ _ _))⟩))))
             go_ret2
             exact ⟨xq, bl⟩
           ·
            rw [if_neg c22] at H
            have c22b0 : (a0 == 12) = false := beq_eq_false_iff_ne.mpr c22
            have c22b1 : (a0 != 12) = true := bne_iff_ne.mpr c22
            by_cases c26 : a0 = 13
            ·
             rw [if_pos c26] at H
             have c26b0 : (a0 == 13) = true := beq_iff_eq.mpr c26
             have c26b1 : (a0 != 13) = false := bne_eq_false_iff_eq.mpr c26
             clear c26
             replace H := Option.bind_eq_some_iff.mp H
             obtain ⟨t238, A270, H⟩ := H
             replace H : (some (t238, true)) = some (r1, r2) := H
             have A27 := Am A270
             clear A270
             simp only [Option.some.injEq, Prod.mk.injEq] at H
             obtain ⟨rfl, rfl⟩ := H
             have p229 : 0 ≤ (0 : Int) := (by omega)
             have q229 : 0 < (l1.length : Int) := of_decide_eq_true az
             obtain ⟨ad229, e229, hx229_0⟩ := Kd.at_int HR1.out 0 p229 q229
             cases e229
             have qi229 : (0 < l1.length) = True := eq_true (by omega)
             (try rw [show ((0 : Int)).toNat = 0 from rfl] at hx229_0)
             (try rw [Addr.add_zero'] at hx229_0)
             replace p229 := eq_true p229
             replace q229 := eq_true q229
             have p230 : 0 ≤ (1 : Int) := (by omega)
             have q230 : 1 < (l1.length : Int) := of_decide_eq_true az
             obtain ⟨ad230, e230, hx230_0⟩ := Kd.at_int HR1.out 1 p230 q230
             obtain rfl : ad229 = ad230 := (by injection e230)
             (try simp only [show (1 : Int).toNat = 1 from rfl, Nat.reduceMul, Nat.reduceEqDiff, Go.Addr.add, ↓reduceIte] at hx230_0)
             have qi230 : (1 < l1.length) = True := eq_true (by omega)
             (try rw [show ((1 : Int)).toNat = 1 from rfl] at hx230_0)
             replace p230 := eq_true p230
             replace q230 := eq_true q230
             go_enter Try.func27, Try.ntmps27
             go_wp2_with (first | (go_at_call 33; (with_reducible refine (surmiseref03_one.calls ((rd l1 0) == (rd l1 1)) t238 _ A27.out).mono ?_); rintro e w' ⟨rfl, ⟨nd, rfl⟩⟩; (try first | exact ⟨rfl, _, World.drewN_drewN _ _ _⟩ | exact ⟨rfl, _, Eq.trans (World.drewN_drewN _ _ _) (congrArg (World.drewN _) (Nat.add_assoc _ _ _))⟩)))
             repeat (go_quiet (first | (go_at_call 33; (with_reducible refine (surmiseref03_one.calls ((rd l1 0) == (rd l1 1)) t238 _ A27.out).mono ?_); rintro e w' ⟨rfl, ⟨nd, rfl⟩⟩; (try first | exact ⟨rfl, _, World.drewN_drewN _ _ _⟩ | exact ⟨rfl, _, Eq.trans (World.drewN_drewN _ _ _) (congrArg (World.drewN _) (Nat.add_assoc _ _ _))⟩))); try go_wp2_with (first | (go_at_call 33; (with_reducible refine (surmiseref03_one.calls ((rd l1 0) == (rd l1 1)) t238 _ A27.out).mono ?_); rintro e w' ⟨rfl, ⟨nd, rfl⟩⟩; (try first | exact ⟨rfl, _, World.drewN_drewN _ _ _⟩ | exact ⟨rfl, _, Eq.trans (World.drewN_drewN _ _ _) (congrArg (World.drewN _) (Nat.add_assoc _ _ _))⟩))))
             go_ret2
             exact ⟨xq, bl⟩
            ·
             rw [if_neg c26] at H
             have c26b0 : (a0 == 13) = false := beq_eq_false_iff_ne.mpr c26
             have c26b1 : (a0 != 13) = true := bne_iff_ne.mpr c26
             by_cases c28 : a0 = 14
             ·
              rw [if_pos c28] at H
              have c28b0 : (a0 == 14) = true := beq_iff_eq.mpr c28
              have c28b1 : (a0 != 14) = false := bne_eq_false_iff_eq.mpr c28
              clear c28
              by_cases c29 : (rd l1 0) = 0
              ·
               rw [if_pos c29] at H
               have c29b0 : ((rd l1 0) == 0) = true := beq_iff_eq.mpr c29
               have c29b1 : ((rd l1 0) != 0) = false := bne_eq_false_iff_eq.mpr c29
               clear c29
               replace H := Option.bind_eq_some_iff.mp H
               obtain ⟨t239, A300, H⟩ := H
               replace H : (some (t239, true)) = some (r1, r2) := H
               have A30 := Am A300
               clear A300
               simp only [Option.some.injEq, Prod.mk.injEq] at H
               obtain ⟨rfl, rfl⟩ := H
               have p229 : 0 ≤ (0 : Int) := (by omega)
               have q229 : 0 < (l1.length : Int) := of_decide_eq_true az
               obtain ⟨ad229, e229, hx229_0⟩ := Kd.at_int HR1.out 0 p229 q229
               cases e229
               have qi229 : (0 < l1.length) = True := eq_true (by omega)
               (try rw [show ((0 : Int)).toNat = 0 from rfl] at hx229_0)
               (try rw [Addr.add_zero'] at hx229_0)
               replace p229 := eq_true p229
               replace q229 := eq_true q229
               have p230 : 0 ≤ (1 : Int) := (by omega)
               have q230 : 1 < (l1.length : Int) := of_decide_eq_true az
               obtain ⟨ad230, e230, hx230_0⟩ := Kd.at_int HR1.out 1 p230 q230
               obtain rfl : ad229 = ad230 := (by injection e230)
               (try simp only [show (1 : Int).toNat = 1 from rfl, Nat.reduceMul, Nat.reduceEqDiff, Go.Addr.add, ↓reduceIte] at hx230_0)
               have qi230 : (1 < l1.length) = True := eq_true (by omega)
               (try rw [show ((1 : Int)).toNat = 1 from rfl] at hx230_0)
               replace p230 := eq_true p230
               replace q230 := eq_true q230
               go_enter Try.func27, Try.ntmps27
               go_wp2_with (first | (go_at_call 33; (with_reducible refine (surmiseref03_one.calls false t239 _ A30.out).mono ?_); rintro e w' ⟨rfl, ⟨nd, rfl⟩⟩; (try first | exact ⟨rfl, _, World.drewN_drewN _ _ _⟩ | exact ⟨rfl, _, Eq.trans (World.drewN_drewN _ _ _) (congrArg (World.drewN _) (Nat.add_assoc _ _ _))⟩)))
               repeat (go_quiet (first | (go_at_call 33; (with_reducible refine (surmiseref03_one.calls false t239 _ A30.out).mono ?_); rintro e w' ⟨rfl, ⟨nd, rfl⟩⟩; (try first | exact ⟨rfl, _, World.drewN_drewN _ _ _⟩ | exact ⟨rfl, _, Eq.trans (World.drewN_drewN _ _ _) (congrArg (World.drewN _) (Nat.add_assoc _ _ _))⟩))); try go_wp2_with (first | (go_at_call 33; (with_reducible refine (surmiseref03_one.calls false t239 _ A30.out).mono ?_); rintro e w' ⟨rfl, ⟨nd, rfl⟩⟩; (try first | exact ⟨rfl, _, World.drewN_drewN _ _ _⟩ | exact ⟨rfl, _, Eq.trans (World.drewN_drewN _ _ _) (congrArg (World.drewN _) (Nat.add_assoc _ _ _))⟩))))
               go_ret2
               exact ⟨xq, bl⟩
              ·
               rw [if_neg c29] at H
               have c29b0 : ((rd l1 0) == 0) = false := beq_eq_false_iff_ne.mpr c29
               have c29b1 : ((rd l1 0) != 0) = true := bne_iff_ne.mpr c29
               replace H := Option.bind_eq_some_iff.mp H
               obtain ⟨t240, A310, H⟩ := H
               replace H : (some (t240, true)) = some (r1, r2) := H
               have A31 := Am A310
               clear A310
               simp only [Option.some.injEq, Prod.mk.injEq] at H
               obtain ⟨rfl, rfl⟩ := H
               have p229 : 0 ≤ (0 : Int) := (by omega)
               have q229 : 0 < (l1.length : Int) := of_decide_eq_true az
               obtain ⟨ad229, e229, hx229_0⟩ := Kd.at_int HR1.out 0 p229 q229
               cases e229
               have qi229 : (0 < l1.length) = True := eq_true (by omega)
               (try rw [show ((0 : Int)).toNat = 0 from rfl] at hx229_0)
               (try rw [Addr.add_zero'] at hx229_0)
               replace p229 := eq_true p229
               replace q229 := eq_true q229
               have p230 : 0 ≤ (1 : Int) := (by omega)
               have q230 : 1 < (l1.length : Int) := of_decide_eq_true az
               obtain ⟨ad230, e230, hx230_0⟩ := Kd.at_int HR1.out 1 p230 q230
               obtain rfl : ad229 = ad230 := (by injection e230)
               (try simp only [show (1 : Int).toNat = 1 from rfl, Nat.reduceMul, Nat.reduceEqDiff, Go.Addr.add, ↓reduceIte] at hx230_0)
               have qi230 : (1 < l1.length) = True := eq_true (by omega)
               (try rw [show ((1 : Int)).toNat = 1 from rfl] at hx230_0)
               replace p230 := eq_true p230
               replace q230 := eq_true q230
               go_enter Try.func27, Try.ntmps27
               go_wp2_with (first | (go_at_call 33; (with_reducible refine (surmiseref03_one.calls ((rd l1 1) != 0) t240 _ A31.out).mono ?_); rintro e w' ⟨rfl, ⟨nd, rfl⟩⟩; (try first | exact ⟨rfl, _, World.drewN_drewN _ _ _⟩ | exact ⟨rfl, _, Eq.trans (World.drewN_drewN _ _ _) (congrArg (World.drewN _) (Nat.add_assoc _ _ _))⟩)))
               repeat (go_quiet (first | (go_at_call 33; (with_reducible refine (surmiseref03_one.calls ((rd l1 1) != 0) t240 _ A31.out).mono ?_); rintro e w' ⟨rfl, ⟨nd, rfl⟩⟩; (try first | exact ⟨rfl, _, World.drewN_drewN _ _ _⟩ | exact ⟨rfl, _, Eq.trans (World.drewN_drewN _ _ _) (congrArg (World.drewN _) (Nat.add_assoc _ _ _))⟩))); try go_wp2_with (first | (go_at_call 33; (with_reducible refine (surmiseref03_one.calls ((rd l1 1) != 0) t240 _ A31.out).mono ?_); rintro e w' ⟨rfl, ⟨nd, rfl⟩⟩; (try first | exact ⟨rfl, _, World.drewN_drewN _ _ _⟩ | exact ⟨rfl, _, Eq.trans (World.drewN_drewN _ _ _) (congrArg (World.drewN _) (Nat.add_assoc _ _ _))⟩))))
               go_ret2
               exact ⟨xq, bl⟩
             ·
              rw [if_neg c28] at H
              have c28b0 : (a0 == 14) = false := beq_eq_false_iff_ne.mpr c28
              have c28b1 : (a0 != 14) = true := bne_iff_ne.mpr c28
              by_cases c32 : a0 = 15
              ·
               rw [if_pos c32] at H
               have c32b0 : (a0 == 15) = true := beq_iff_eq.mpr c32
               have c32b1 : (a0 != 15) = false := bne_eq_false_iff_eq.mpr c32
               clear c32
               by_cases c33 : (rd l1 0) = 0
               ·
                rw [if_pos c33] at H
                have c33b0 : ((rd l1 0) == 0) = true := beq_iff_eq.mpr c33
                have c33b1 : ((rd l1 0) != 0) = false := bne_eq_false_iff_eq.mpr c33
                clear c33
                replace H := Option.bind_eq_some_iff.mp H
                obtain ⟨t241, A340, H⟩ := H
                replace H : (some (t241, true)) = some (r1, r2) := H
                have A34 := Am A340
                clear A340
                simp only [Option.some.injEq, Prod.mk.injEq] at H
                obtain ⟨rfl, rfl⟩ := H
                have p229 : 0 ≤ (0 : Int) := (by omega)
                have q229 : 0 < (l1.length : Int) := of_decide_eq_true az
                obtain ⟨ad229, e229, hx229_0⟩ := Kd.at_int HR1.out 0 p229 q229
                cases e229
                have qi229 : (0 < l1.length) = True := eq_true (by omega)
                (try rw [show ((0 : Int)).toNat = 0 from rfl] at hx229_0)
                (try rw [Addr.add_zero'] at hx229_0)
                replace p229 := eq_true p229
                replace q229 := eq_true q229
                have p230 : 0 ≤ (1 : Int) := (by omega)
                have q230 : 1 < (l1.length : Int) := of_decide_eq_true az
                obtain ⟨ad230, e230, hx230_0⟩ := Kd.at_int HR1.out 1 p230 q230
                obtain rfl : ad229 = ad230 := (by injection e230)
                (try simp only [show (1 : Int).toNat = 1 from rfl, Nat.reduceMul, Nat.reduceEqDiff, Go.Addr.add, ↓reduceIte] at hx230_0)
                have qi230 : (1 < l1.length) = True := eq_true (by omega)
                (try rw [show ((1 : Int)).toNat = 1 from rfl] at hx230_0)
                replace p230 := eq_true p230
                replace q230 := eq_true q230
                go_enter Try.func27, Try.ntmps27
                go_wp2_with (first | (go_at_call 33; (with_reducible refine (surmiseref03_one.calls ((rd l1 1) != 0) t241 _ A34.out).mono ?_); rintro e w' ⟨rfl, ⟨nd, rfl⟩⟩; (try first | exact ⟨rfl, _, World.drewN_drewN _ _ _⟩ | exact ⟨rfl, _, Eq.trans (World.drewN_drewN _ _ _) (congrArg (World.drewN _) (Nat.add_assoc _ _ _))⟩)))
                repeat (go_quiet (first | (go_at_call 33; (with_reducible refine (surmiseref03_one.calls ((rd l1 1) != 0) t241 _ A34.out).mono ?_); rintro e w' ⟨rfl, ⟨nd, rfl⟩⟩; (try first | exact ⟨rfl, _, World.drewN_drewN _ _ _⟩ | exact ⟨rfl, _, Eq.trans (World.drewN_drewN _ _ _) (congrArg (World.drewN _) (Nat.add_assoc _ _ _))⟩))); try go_wp2_with (first | (go_at_call 33; (with_reducible refine (surmiseref03_one.calls ((rd l1 1) != 0) t241 _ A34.out).mono ?_); rintro e w' ⟨rfl, ⟨nd, rfl⟩⟩; (try first | exact ⟨rfl, _, World.drewN_drewN _ _ _⟩ | exact ⟨rfl, _, Eq.trans (World.drewN_drewN _ _ _) (congrArg (World.drewN _) (Nat.add_assoc _ _ _))⟩))))
                go_ret2
                exact ⟨xq, bl⟩
               ·
                rw [if_neg c33] at H
                have c33b0 : ((rd l1 0) == 0) = false := beq_eq_false_iff_ne.mpr c33
                have c33b1 : ((rd l1 0) != 0) = true := bne_iff_ne.mpr c33
                replace H := Option.bind_eq_some_iff.mp H
                obtain ⟨t242, A350, H⟩ := H
                replace H : (some (t242, true)) = some (r1, r2) := H
                have A35 := Am A350
                clear A350
                simp only [Option.some.injEq, Prod.mk.injEq] at H
                obtain ⟨rfl, rfl⟩ := H
                have p229 : 0 ≤ (0 : Int) := (by omega)
                have q229 : 0 < (l1.length : Int) := of_decide_eq_true az
                obtain ⟨ad229, e229, hx229_0⟩ := Kd.at_int HR1.out 0 p229 q229
                cases e229
                have qi229 : (0 < l1.length) = True := eq_true (by omega)
                (try rw [show ((0 : Int)).toNat = 0 from rfl] at hx229_0)
                (try rw [Addr.add_zero'] at hx229_0)
                replace p229 := eq_true p229
                replace q229 := eq_true q229
                have p230 : 0 ≤ (1 : Int) := (by omega)
                have q230 : 1 < (l1.length : Int) := of_decide_eq_true az
                obtain ⟨ad230, e230, hx230_0⟩ := Kd.at_int HR1.out 1 p230 q230
                obtain rfl : ad229 = ad230 := (by injection e230)
                (try simp only [show (1 : Int).toNat = 1 from rfl, Nat.reduceMul, Nat.reduceEqDiff, Go.Addr.add, ↓reduceIte] at hx230_0)
                have qi230 : (1 < l1.length) = True := eq_true (by omega)
                (try rw [show ((1 : Int)).toNat = 1 from rfl] at hx230_0)
                replace p230 := eq_true p230
                replace q230 := eq_true q230
                go_enter Try.func27, Try.ntmps27
                go_wp2_with (first | (go_at_call 33; (with_reducible refine (surmiseref03_one.calls true t242 _ A35.out).mono ?_); rintro e w' ⟨rfl, ⟨nd, rfl⟩⟩; (try first | exact ⟨rfl, _, World.drewN_drewN _ _ _⟩ | exact ⟨rfl, _, Eq.trans (World.drewN_drewN _ _ _) (congrArg (World.drewN _) (Nat.add_assoc _ _ _))⟩)))
                repeat (go_quiet (first | (go_at_call 33; (with_reducible refine (surmiseref03_one.calls true t242 _ A35.out).mono ?_); rintro e w' ⟨rfl, ⟨nd, rfl⟩⟩; (try first | exact ⟨rfl, _, World.drewN_drewN _ _ _⟩ | exact ⟨rfl, _, Eq.trans (World.drewN_drewN _ _ _) (congrArg (World.drewN _) (Nat.add_assoc _ _ _))⟩))); try go_wp2_with (first | (go_at_call 33; (with_reducible refine (surmiseref03_one.calls true t242 _ A35.out).mono ?_); rintro e w' ⟨rfl, ⟨nd, rfl⟩⟩; (try first | exact ⟨rfl, _, World.drewN_drewN _ _ _⟩ | exact ⟨rfl, _, Eq.trans (World.drewN_drewN _ _ _) (congrArg (World.drewN _) (Nat.add_assoc _ _ _))⟩))))
                go_ret2
                exact ⟨xq, bl⟩
              ·
               rw [if_neg c32] at H
               have c32b0 : (a0 == 15) = false := beq_eq_false_iff_ne.mpr c32
               have c32b1 : (a0 != 15) = true := bne_iff_ne.mpr c32
               by_cases c36 : (rd l1 0) = 0
               ·
                rw [if_pos c36] at H
                have c36b0 : ((rd l1 0) == 0) = true := beq_iff_eq.mpr c36
                have c36b1 : ((rd l1 0) != 0) = false := bne_eq_false_iff_eq.mpr c36
                clear c36
                by_cases c37 : 2 < (l1.length : Int)
                ·
                 rw [if_pos c37] at H
                 have c37b0 : decide (2 < (l1.length : Int)) = true := decide_eq_true c37
                 have c37b1 : decide (2 < l1.length) = true := decide_eq_true (by omega)
                 clear c37
                 simp only [Option.some.injEq, Prod.mk.injEq] at H
                 obtain ⟨rfl, rfl⟩ := H
                 have p229 : 0 ≤ (0 : Int) := (by omega)
                 have q229 : 0 < (l1.length : Int) := of_decide_eq_true az
                 obtain ⟨ad229, e229, hx229_0⟩ := Kd.at_int HR1.out 0 p229 q229
                 cases e229
                 have qi229 : (0 < l1.length) = True := eq_true (by omega)
                 (try rw [show ((0 : Int)).toNat = 0 from rfl] at hx229_0)
                 (try rw [Addr.add_zero'] at hx229_0)
                 replace p229 := eq_true p229
                 replace q229 := eq_true q229
                 have p230 : 0 ≤ (1 : Int) := (by omega)
                 have q230 : 1 < (l1.length : Int) := of_decide_eq_true az
                 obtain ⟨ad230, e230, hx230_0⟩ := Kd.at_int HR1.out 1 p230 q230
                 obtain rfl : ad229 = ad230 := (by injection e230)
                 (try simp only [show (1 : Int).toNat = 1 from rfl, Nat.reduceMul, Nat.reduceEqDiff, Go.Addr.add, ↓reduceIte] at hx230_0)
                 have qi230 : (1 < l1.length) = True := eq_true (by omega)
                 (try rw [show ((1 : Int)).toNat = 1 from rfl] at hx230_0)
                 replace p230 := eq_true p230
                 replace q230 := eq_true q230
                 have p243 : 0 ≤ (2 : Int) := (by omega)
                 have q243 : 2 < (l1.length : Int) := of_decide_eq_true az
                 obtain ⟨ad243, e243, hx243_0⟩ := Kd.at_int HR1.out 2 p243 q243
                 obtain rfl : ad229 = ad243 := (by injection e243)
                 (try simp only [show (2 : Int).toNat = 2 from rfl, Nat.reduceMul, Nat.reduceEqDiff, Go.Addr.add, ↓reduceIte] at hx243_0)
                 have qi243 : (2 < l1.length) = True := eq_true (by omega)
                 (try rw [show ((2 : Int)).toNat = 2 from rfl] at hx243_0)
                 replace p243 := eq_true p243
                 replace q243 := eq_true q243
                 go_enter Try.func27, Try.ntmps27
                 go_wp2
                 repeat (go_quiet (fail); try go_wp2)
                 go_ret2
                 exact ⟨xq, bl⟩
                ·
                 rw [if_neg c37] at H
                 exact absurd H (by simp)
               ·
                rw [if_neg c36] at H
                have c36b0 : ((rd l1 0) == 0) = false := beq_eq_false_iff_ne.mpr c36
                have c36b1 : ((rd l1 0) != 0) = true := bne_iff_ne.mpr c36
                simp only [Option.some.injEq, Prod.mk.injEq] at H
                obtain ⟨rfl, rfl⟩ := H
                have p229 : 0 ≤ (0 : Int) := (by omega)
                have q229 : 0 < (l1.length : Int) := of_decide_eq_true az
                obtain ⟨ad229, e229, hx229_0⟩ := Kd.at_int HR1.out 0 p229 q229
                cases e229
                have qi229 : (0 < l1.length) = True := eq_true (by omega)
                (try rw [show ((0 : Int)).toNat = 0 from rfl] at hx229_0)
                (try rw [Addr.add_zero'] at hx229_0)
                replace p229 := eq_true p229
                replace q229 := eq_true q229
                have p230 : 0 ≤ (1 : Int) := (by omega)
                have q230 : 1 < (l1.length : Int) := of_decide_eq_true az
                obtain ⟨ad230, e230, hx230_0⟩ := Kd.at_int HR1.out 1 p230 q230
                obtain rfl : ad229 = ad230 := (by injection e230)
                (try simp only [show (1 : Int).toNat = 1 from rfl, Nat.reduceMul, Nat.reduceEqDiff, Go.Addr.add, ↓reduceIte] at hx230_0)
                have qi230 : (1 < l1.length) = True := eq_true (by omega)
                (try rw [show ((1 : Int)).toNat = 1 from rfl] at hx230_0)
                replace p230 := eq_true p230
                replace q230 := eq_true q230
                go_enter Try.func27, Try.ntmps27
                go_wp2
                repeat (go_quiet (fail); try go_wp2)
                go_ret2
                exact ⟨xq, bl⟩
    ·
     rw [if_neg c9] at H
     exact absurd H (by simp)
   ·
    rw [if_neg c8] at H
    exact absurd H (by simp)

end Go.Proofs.Ythhnecbfcpmpbaa.PA
