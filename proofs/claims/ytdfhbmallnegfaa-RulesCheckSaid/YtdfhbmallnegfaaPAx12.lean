-- Written by a program (wip/tools/gprint.py: a patched copy of the kit's print) and by hand, for this claim
import Derived.Test.YtdfhbmallnegfaaPAx0
import Derived.Test.YtdfhbmallnegfaaPAx11
namespace Go.Proofs.Ytdfhbmallnegfaa.PA
open Go.RowKit Go.Proofs.YtdfhbmallnegfaaW.PrintWords Go.Proofs.YtdfhbmallnegfaaW.PrintLast Go.Proofs.YtdfhbmallnegfaaW.PrintMore
attribute [local go_sem] max2_int min2_int max_two min_two max_three min_three max_four min_four   -- for this text's walks alone
set_option linter.unusedVariables false
set_option linter.unusedSimpArgs false

/-! ### surmiseref05_step: function 54 -/
mutual
def surmiseref05_step.l0 : Nat → Int → Int → List (S68) → Int → List ByteArray → List ByteArray → List Int → List (S38) → Option (Int)
 | 0, _, _, _, _, _, _, _, _ => none
 | k + 1, x2, x7, x455000, x455001, x456000, x456001, x456002, x456003 => if x7 < (x455000.length : Int) then (if 0 ≤ x7 then (if ((rd_T68 x455000 x7).f0) < 0 then (surmiseref05_step.j1 k x2 x7 true x455000 x455001 x456000 x456001 x456002 x456003 ((rd_T68 x455000 x7).f0) ((rd_T68 x455000 x7).f1)) else (surmiseref05_step.j1 k x2 x7 (decide (((rd_T68 x455000 x7).f0) ≥ (x456001.length : Int))) x455000 x455001 x456000 x456001 x456002 x456003 ((rd_T68 x455000 x7).f0) ((rd_T68 x455000 x7).f1))) else (none)) else (some 0)
def surmiseref05_step.j1 : Nat → Int → Int → Bool → List (S68) → Int → List ByteArray → List ByteArray → List Int → List (S38) → Int → List (S71) → Option (Int)
 | 0, _, _, _, _, _, _, _, _, _, _, _ => none
 | k + 1, x2, x7, x39, x455000, x455001, x456000, x456001, x456002, x456003, x458000, x458001 => if x39 = true then (some 3) else (surmiseref05_step.l1 k x2 x7 0 x455000 x455001 x456000 x456001 x456002 x456003 x458000 x458001)
def surmiseref05_step.l1 : Nat → Int → Int → Int → List (S68) → Int → List ByteArray → List ByteArray → List Int → List (S38) → Int → List (S71) → Option (Int)
 | 0, _, _, _, _, _, _, _, _, _, _, _ => none
 | k + 1, x2, x7, x9, x455000, x455001, x456000, x456001, x456002, x456003, x458000, x458001 => if x9 < x7 then (if 0 ≤ x9 then (if x9 < (x455000.length : Int) then (if ((rd_T68 x455000 x9).f0) = x458000 then (some 9) else (surmiseref05_step.l1 k x2 x7 (wrap64 (x9 + 1)) x455000 x455001 x456000 x456001 x456002 x456003 x458000 x458001)) else (none)) else (none)) else ((surmiseref05_code.f k x458001 (x456001.length : Int) x2).bind fun t459 => (if t459 = 0 then (surmiseref05_step.l0 k x2 (wrap64 (x7 + 1)) x455000 x455001 x456000 x456001 x456002 x456003) else (some t459)))
end
def surmiseref05_step.f (k : Nat) (l0_0 : List (S68)) (a0_1 : Int) (l1_0 : List ByteArray) (l1_1 : List ByteArray) (l1_2 : List Int) (l1_3 : List (S38)) (a2 : Int) : Option (Int) := if a0_1 ≥ (l1_0.length : Int) then (some 3) else (surmiseref05_step.l0 k a2 0 l0_0 a0_1 l1_0 l1_1 l1_2 l1_3)
theorem surmiseref05_step.mono_l : ∀ k, (∀ y0 y1 y2 y3 y4 y5 y6 y7, LeO (surmiseref05_step.l0 k y0 y1 y2 y3 y4 y5 y6 y7) (surmiseref05_step.l0 (k + 1) y0 y1 y2 y3 y4 y5 y6 y7)) ∧ (∀ y0 y1 y2 y3 y4 y5 y6 y7 y8 y9 y10, LeO (surmiseref05_step.j1 k y0 y1 y2 y3 y4 y5 y6 y7 y8 y9 y10) (surmiseref05_step.j1 (k + 1) y0 y1 y2 y3 y4 y5 y6 y7 y8 y9 y10)) ∧ (∀ y0 y1 y2 y3 y4 y5 y6 y7 y8 y9 y10, LeO (surmiseref05_step.l1 k y0 y1 y2 y3 y4 y5 y6 y7 y8 y9 y10) (surmiseref05_step.l1 (k + 1) y0 y1 y2 y3 y4 y5 y6 y7 y8 y9 y10))
 | 0 => ⟨fun _ _ _ _ _ _ _ _ r h => by simp [surmiseref05_step.l0] at h, fun _ _ _ _ _ _ _ _ _ _ _ r h => by simp [surmiseref05_step.j1] at h, fun _ _ _ _ _ _ _ _ _ _ _ r h => by simp [surmiseref05_step.l1] at h⟩
 | k + 1 => by
  obtain ⟨ih0, ih1, ih2⟩ := surmiseref05_step.mono_l k
  refine ⟨?_, ?_, ?_⟩
  ·
   intro y0 y1 y2 y3 y4 y5 y6 y7
   unfold surmiseref05_step.l0
   repeat' first
   | (with_reducible exact ih0 _ _ _ _ _ _ _ _)
   | (with_reducible exact ih1 _ _ _ _ _ _ _ _ _ _ _)
   | (with_reducible exact ih2 _ _ _ _ _ _ _ _ _ _ _)
   | (with_reducible exact surmiseref05_code.mono _ _ _ _)
   | (with_reducible exact LeO.refl _)
   | (with_reducible exact LeO.none _)
   | (with_reducible refine LeO.ite ?_ ?_)
   | (with_reducible refine LeO.bind ?_ (fun _ => ?_))
   | exact ih0 _ _ _ _ _ _ _ _
   | exact ih1 _ _ _ _ _ _ _ _ _ _ _
   | exact ih2 _ _ _ _ _ _ _ _ _ _ _
   | exact surmiseref05_code.mono _ _ _ _
   | exact LeO.none _
   | refine LeO.ite ?_ ?_
   | refine LeO.bind ?_ (fun _ => ?_)
  ·
   intro y0 y1 y2 y3 y4 y5 y6 y7 y8 y9 y10
   unfold surmiseref05_step.j1
   repeat' first
   | (with_reducible exact ih0 _ _ _ _ _ _ _ _)
   | (with_reducible exact ih1 _ _ _ _ _ _ _ _ _ _ _)
   | (with_reducible exact ih2 _ _ _ _ _ _ _ _ _ _ _)
   | (with_reducible exact surmiseref05_code.mono _ _ _ _)
   | (with_reducible exact LeO.refl _)
   | (with_reducible exact LeO.none _)
   | (with_reducible refine LeO.ite ?_ ?_)
   | (with_reducible refine LeO.bind ?_ (fun _ => ?_))
   | exact ih0 _ _ _ _ _ _ _ _
   | exact ih1 _ _ _ _ _ _ _ _ _ _ _
   | exact ih2 _ _ _ _ _ _ _ _ _ _ _
   | exact surmiseref05_code.mono _ _ _ _
   | exact LeO.none _
   | refine LeO.ite ?_ ?_
   | refine LeO.bind ?_ (fun _ => ?_)
  ·
   intro y0 y1 y2 y3 y4 y5 y6 y7 y8 y9 y10
   unfold surmiseref05_step.l1
   repeat' first
   | (with_reducible exact ih0 _ _ _ _ _ _ _ _)
   | (with_reducible exact ih1 _ _ _ _ _ _ _ _ _ _ _)
   | (with_reducible exact ih2 _ _ _ _ _ _ _ _ _ _ _)
   | (with_reducible exact surmiseref05_code.mono _ _ _ _)
   | (with_reducible exact LeO.refl _)
   | (with_reducible exact LeO.none _)
   | (with_reducible refine LeO.ite ?_ ?_)
   | (with_reducible refine LeO.bind ?_ (fun _ => ?_))
   | exact ih0 _ _ _ _ _ _ _ _
   | exact ih1 _ _ _ _ _ _ _ _ _ _ _
   | exact ih2 _ _ _ _ _ _ _ _ _ _ _
   | exact surmiseref05_code.mono _ _ _ _
   | exact LeO.none _
   | refine LeO.ite ?_ ?_
   | refine LeO.bind ?_ (fun _ => ?_)
theorem surmiseref05_step.mono : ∀ a0 a1 a2 a3 a4 a5 a6 k, LeO (surmiseref05_step.f k a0 a1 a2 a3 a4 a5 a6) (surmiseref05_step.f (k + 1) a0 a1 a2 a3 a4 a5 a6) := by
 intro a0 a1 a2 a3 a4 a5 a6 k
 obtain ⟨ih0, ih1, ih2⟩ := surmiseref05_step.mono_l k
 unfold surmiseref05_step.f
 repeat' first
   | (with_reducible exact ih0 _ _ _ _ _ _ _ _)
   | (with_reducible exact ih1 _ _ _ _ _ _ _ _ _ _ _)
   | (with_reducible exact ih2 _ _ _ _ _ _ _ _ _ _ _)
   | (with_reducible exact surmiseref05_code.mono _ _ _ _)
   | (with_reducible exact LeO.refl _)
   | (with_reducible exact LeO.none _)
   | (with_reducible refine LeO.ite ?_ ?_)
   | (with_reducible refine LeO.bind ?_ (fun _ => ?_))
   | exact ih0 _ _ _ _ _ _ _ _
   | exact ih1 _ _ _ _ _ _ _ _ _ _ _
   | exact ih2 _ _ _ _ _ _ _ _ _ _ _
   | exact surmiseref05_code.mono _ _ _ _
   | exact LeO.none _
   | refine LeO.ite ?_ ?_
   | refine LeO.bind ?_ (fun _ => ?_)
set_option maxHeartbeats 8000000 in
set_option maxRecDepth 100000 in
theorem surmiseref05_step.calls (k : Nat) (A0_0 : Option Addr) (c0_0 : Nat) (l0_0 : List (S68)) (a0_1 : Int) (A1_0 : Option Addr) (c1_0 : Nat) (l1_0 : List ByteArray) (A1_1 : Option Addr) (c1_1 : Nat) (l1_1 : List ByteArray) (A1_2 : Option Addr) (c1_2 : Nat) (l1_2 : List Int) (A1_3 : Option Addr) (c1_3 : Nat) (l1_3 : List (S38)) (a2 : Int) (r : Int) (w : World) (hr0_0 : Kd.C k68 w A0_0 l0_0.length l0_0) (hc0_0 : l0_0.length ≤ c0_0) (hr1_0 : Kd.C Kd.string w A1_0 l1_0.length l1_0) (hc1_0 : l1_0.length ≤ c1_0) (hr1_1 : Kd.C Kd.string w A1_1 l1_1.length l1_1) (hc1_1 : l1_1.length ≤ c1_1) (hr1_2 : Kd.C (Kd.int .i64) w A1_2 l1_2.length l1_2) (hc1_2 : l1_2.length ≤ c1_2) (hr1_3 : Kd.C k38 w A1_3 l1_3.length l1_3) (hc1_3 : l1_3.length ≤ c1_3) (h : surmiseref05_step.f k l0_0 a0_1 l1_0 l1_1 l1_2 l1_3 a2 = some r) :
  Calls Try.prog 54 #[.agg #[.slice A0_0 l0_0.length c0_0, .int .i64 a0_1], .agg #[.slice A1_0 l1_0.length c1_0, .slice A1_1 l1_1.length c1_1, .slice A1_2 l1_2.length c1_2, .slice A1_3 l1_3.length c1_3], .int .i64 a2] w fun e w' => e = .returned (.int .i64 r) ∧ Below w.heap.size w w' := by
 have hu60 := Try.underlying60
 have hu26 := Try.underlying26
 have hu68 := Try.underlying68
 have HR0_0 := Am hr0_0
 have HC0_0 := Am hc0_0
 clear hr0_0 hc0_0
 have HR1_0 := Am hr1_0
 have HC1_0 := Am hc1_0
 clear hr1_0 hc1_0
 have HR1_1 := Am hr1_1
 have HC1_1 := Am hc1_1
 clear hr1_1 hc1_1
 have HR1_2 := Am hr1_2
 have HC1_2 := Am hc1_2
 clear hr1_2 hc1_2
 have HR1_3 := Am hr1_3
 have HC1_3 := Am hc1_3
 clear hr1_3 hc1_3
 have HB := Am (Below.refl w.heap.size w)
 have H : (if a0_1 ≥ (l1_0.length : Int) then (some 3) else (surmiseref05_step.l0 k a2 0 l0_0 a0_1 l1_0 l1_1 l1_2 l1_3)) = some r := h
 clear h
 by_cases c4 : a0_1 ≥ (l1_0.length : Int)
 ·
  rw [if_pos c4] at H
  have c4b0 : decide ((l1_0.length : Int) ≤ a0_1) = true := decide_eq_true c4
  clear c4
  obtain rfl := Option.some.inj H
  go_enter Try.func54, Try.ntmps54
  go_wp2_with (first | ((with_reducible refine gate_dst (N := 3) rfl ?_); (try (refine gate_guard (by rfl) ?_; dsimp only)); refine bxe (N := 3) (cs := #[.slice A0_0 l0_0.length c0_0, .int .i64 a0_1]) (t := 60) ?_; intro gb454 hg w5 hbox hb; have n0_ := Am (below_step (bl) hb); have n1_ := Am (hbox); have n2_ := Am ((gE hg : w.heap.size ≤ gb454)); have n3_ := Am ((gE hg : w.heap.size ≤ gb454)); clear HB; have HB := n0_; have BK454 := n1_; have GW454 := n2_; have GE454 := n3_; clear n0_ n1_ n2_ n3_; clear hb hbox hg) | ((with_reducible refine gate_dst (N := 4) rfl ?_); (try (refine gate_guard (by rfl) ?_; dsimp only)); refine bxe (N := 4) (cs := #[.slice A1_0 l1_0.length c1_0, .slice A1_1 l1_1.length c1_1, .slice A1_2 l1_2.length c1_2, .slice A1_3 l1_3.length c1_3]) (t := 26) ?_; intro gb455 hg w6 hbox hb; have n0_ := Am (blk_below (kB BK454) hb); have n1_ := Am (below_step (bs) hb); have n2_ := Am (hbox); have n3_ := Am ((gE hg : w.heap.size ≤ gb455)); have n4_ := Am ((gE hg : w.heap.size ≤ gb455)); have n5_ := Am (nL hg BK454); have n6_ := Am (nG hg BK454); clear BK454; clear HB; have BK454 := n0_; have HB := n1_; have BK455 := n2_; have GW455 := n3_; have GE455 := n4_; have NB454_455 := n5_; have NB455_454 := n6_; clear n0_ n1_ n2_ n3_ n4_ n5_ n6_; clear hb hbox hg; have hnb7 := NB454_455.out; have hnc7 := NB455_454.out; have hcz8_0 := cz0 BK454.out; have hcz8_1 := cz1 BK454.out; have hfz8_0 := fz BK454 0; have hfz8_1 := fz BK454 1; have hcz9_0 := cz0 BK455.out; have hcz9_1 := cz1 BK455.out; have hcz9_2 := cz2 BK455.out; have hcz9_3 := cz3 BK455.out; have hfz9_0 := fz BK455 0; have hfz9_1 := fz BK455 1; have hfz9_2 := fz BK455 2; have hfz9_3 := fz BK455 3))
  repeat (go_quiet (first | ((with_reducible refine gate_dst (N := 3) rfl ?_); (try (refine gate_guard (by rfl) ?_; dsimp only)); refine bxe (N := 3) (cs := #[.slice A0_0 l0_0.length c0_0, .int .i64 a0_1]) (t := 60) ?_; intro gb454 hg w5 hbox hb; have n0_ := Am (below_step (bl) hb); have n1_ := Am (hbox); have n2_ := Am ((gE hg : w.heap.size ≤ gb454)); have n3_ := Am ((gE hg : w.heap.size ≤ gb454)); clear HB; have HB := n0_; have BK454 := n1_; have GW454 := n2_; have GE454 := n3_; clear n0_ n1_ n2_ n3_; clear hb hbox hg) | ((with_reducible refine gate_dst (N := 4) rfl ?_); (try (refine gate_guard (by rfl) ?_; dsimp only)); refine bxe (N := 4) (cs := #[.slice A1_0 l1_0.length c1_0, .slice A1_1 l1_1.length c1_1, .slice A1_2 l1_2.length c1_2, .slice A1_3 l1_3.length c1_3]) (t := 26) ?_; intro gb455 hg w6 hbox hb; have n0_ := Am (blk_below (kB BK454) hb); have n1_ := Am (below_step (bs) hb); have n2_ := Am (hbox); have n3_ := Am ((gE hg : w.heap.size ≤ gb455)); have n4_ := Am ((gE hg : w.heap.size ≤ gb455)); have n5_ := Am (nL hg BK454); have n6_ := Am (nG hg BK454); clear BK454; clear HB; have BK454 := n0_; have HB := n1_; have BK455 := n2_; have GW455 := n3_; have GE455 := n4_; have NB454_455 := n5_; have NB455_454 := n6_; clear n0_ n1_ n2_ n3_ n4_ n5_ n6_; clear hb hbox hg; have hnb7 := NB454_455.out; have hnc7 := NB455_454.out; have hcz8_0 := cz0 BK454.out; have hcz8_1 := cz1 BK454.out; have hfz8_0 := fz BK454 0; have hfz8_1 := fz BK454 1; have hcz9_0 := cz0 BK455.out; have hcz9_1 := cz1 BK455.out; have hcz9_2 := cz2 BK455.out; have hcz9_3 := cz3 BK455.out; have hfz9_0 := fz BK455 0; have hfz9_1 := fz BK455 1; have hfz9_2 := fz BK455 2; have hfz9_3 := fz BK455 3)); try go_wp2_with (first | ((with_reducible refine gate_dst (N := 3) rfl ?_); (try (refine gate_guard (by rfl) ?_; dsimp only)); refine bxe (N := 3) (cs := #[.slice A0_0 l0_0.length c0_0, .int .i64 a0_1]) (t := 60) ?_; intro gb454 hg w5 hbox hb; have n0_ := Am (below_step (bl) hb); have n1_ := Am (hbox); have n2_ := Am ((gE hg : w.heap.size ≤ gb454)); have n3_ := Am ((gE hg : w.heap.size ≤ gb454)); clear HB; have HB := n0_; have BK454 := n1_; have GW454 := n2_; have GE454 := n3_; clear n0_ n1_ n2_ n3_; clear hb hbox hg) | ((with_reducible refine gate_dst (N := 4) rfl ?_); (try (refine gate_guard (by rfl) ?_; dsimp only)); refine bxe (N := 4) (cs := #[.slice A1_0 l1_0.length c1_0, .slice A1_1 l1_1.length c1_1, .slice A1_2 l1_2.length c1_2, .slice A1_3 l1_3.length c1_3]) (t := 26) ?_; intro gb455 hg w6 hbox hb; have n0_ := Am (blk_below (kB BK454) hb); have n1_ := Am (below_step (bs) hb); have n2_ := Am (hbox); have n3_ := Am ((gE hg : w.heap.size ≤ gb455)); have n4_ := Am ((gE hg : w.heap.size ≤ gb455)); have n5_ := Am (nL hg BK454); have n6_ := Am (nG hg BK454); clear BK454; clear HB; have BK454 := n0_; have HB := n1_; have BK455 := n2_; have GW455 := n3_; have GE455 := n4_; have NB454_455 := n5_; have NB455_454 := n6_; clear n0_ n1_ n2_ n3_ n4_ n5_ n6_; clear hb hbox hg; have hnb7 := NB454_455.out; have hnc7 := NB455_454.out; have hcz8_0 := cz0 BK454.out; have hcz8_1 := cz1 BK454.out; have hfz8_0 := fz BK454 0; have hfz8_1 := fz BK454 1; have hcz9_0 := cz0 BK455.out; have hcz9_1 := cz1 BK455.out; have hcz9_2 := cz2 BK455.out; have hcz9_3 := cz3 BK455.out; have hfz9_0 := fz BK455 0; have hfz9_1 := fz BK455 1; have hfz9_2 := fz BK455 2; have hfz9_3 := fz BK455 3)))
  go_ret
  exact ⟨xq, bs⟩
 ·
  rw [if_neg c4] at H
  have c4b0 : decide ((l1_0.length : Int) ≤ a0_1) = false := decide_eq_false c4
  clear c4
  have H' := Am H
  clear H
  go_enter Try.func54, Try.ntmps54
  go_wp2_with (first | ((with_reducible refine gate_dst (N := 3) rfl ?_); (try (refine gate_guard (by rfl) ?_; dsimp only)); refine bxe (N := 3) (cs := #[.slice A0_0 l0_0.length c0_0, .int .i64 a0_1]) (t := 60) ?_; intro gb454 hg w10 hbox hb; have n0_ := Am (below_step (bl) hb); have n1_ := Am (hbox); have n2_ := Am ((gE hg : w.heap.size ≤ gb454)); have n3_ := Am ((gE hg : w.heap.size ≤ gb454)); clear HB; have HB := n0_; have BK454 := n1_; have GW454 := n2_; have GE454 := n3_; clear n0_ n1_ n2_ n3_; clear hb hbox hg) | ((with_reducible refine gate_dst (N := 4) rfl ?_); (try (refine gate_guard (by rfl) ?_; dsimp only)); refine bxe (N := 4) (cs := #[.slice A1_0 l1_0.length c1_0, .slice A1_1 l1_1.length c1_1, .slice A1_2 l1_2.length c1_2, .slice A1_3 l1_3.length c1_3]) (t := 26) ?_; intro gb455 hg w11 hbox hb; have n0_ := Am (blk_below (kB BK454) hb); have n1_ := Am (below_step (bs) hb); have n2_ := Am (hbox); have n3_ := Am ((gE hg : w.heap.size ≤ gb455)); have n4_ := Am ((gE hg : w.heap.size ≤ gb455)); have n5_ := Am (nL hg BK454); have n6_ := Am (nG hg BK454); clear BK454; clear HB; have BK454 := n0_; have HB := n1_; have BK455 := n2_; have GW455 := n3_; have GE455 := n4_; have NB454_455 := n5_; have NB455_454 := n6_; clear n0_ n1_ n2_ n3_ n4_ n5_ n6_; clear hb hbox hg; have hnb12 := NB454_455.out; have hnc12 := NB455_454.out; have hcz13_0 := cz0 BK454.out; have hcz13_1 := cz1 BK454.out; have hfz13_0 := fz BK454 0; have hfz13_1 := fz BK454 1; have hcz14_0 := cz0 BK455.out; have hcz14_1 := cz1 BK455.out; have hcz14_2 := cz2 BK455.out; have hcz14_3 := cz3 BK455.out; have hfz14_0 := fz BK455 0; have hfz14_1 := fz BK455 1; have hfz14_2 := fz BK455 2; have hfz14_3 := fz BK455 3))
  repeat (go_quiet (first | ((with_reducible refine gate_dst (N := 3) rfl ?_); (try (refine gate_guard (by rfl) ?_; dsimp only)); refine bxe (N := 3) (cs := #[.slice A0_0 l0_0.length c0_0, .int .i64 a0_1]) (t := 60) ?_; intro gb454 hg w10 hbox hb; have n0_ := Am (below_step (bl) hb); have n1_ := Am (hbox); have n2_ := Am ((gE hg : w.heap.size ≤ gb454)); have n3_ := Am ((gE hg : w.heap.size ≤ gb454)); clear HB; have HB := n0_; have BK454 := n1_; have GW454 := n2_; have GE454 := n3_; clear n0_ n1_ n2_ n3_; clear hb hbox hg) | ((with_reducible refine gate_dst (N := 4) rfl ?_); (try (refine gate_guard (by rfl) ?_; dsimp only)); refine bxe (N := 4) (cs := #[.slice A1_0 l1_0.length c1_0, .slice A1_1 l1_1.length c1_1, .slice A1_2 l1_2.length c1_2, .slice A1_3 l1_3.length c1_3]) (t := 26) ?_; intro gb455 hg w11 hbox hb; have n0_ := Am (blk_below (kB BK454) hb); have n1_ := Am (below_step (bs) hb); have n2_ := Am (hbox); have n3_ := Am ((gE hg : w.heap.size ≤ gb455)); have n4_ := Am ((gE hg : w.heap.size ≤ gb455)); have n5_ := Am (nL hg BK454); have n6_ := Am (nG hg BK454); clear BK454; clear HB; have BK454 := n0_; have HB := n1_; have BK455 := n2_; have GW455 := n3_; have GE455 := n4_; have NB454_455 := n5_; have NB455_454 := n6_; clear n0_ n1_ n2_ n3_ n4_ n5_ n6_; clear hb hbox hg; have hnb12 := NB454_455.out; have hnc12 := NB455_454.out; have hcz13_0 := cz0 BK454.out; have hcz13_1 := cz1 BK454.out; have hfz13_0 := fz BK454 0; have hfz13_1 := fz BK454 1; have hcz14_0 := cz0 BK455.out; have hcz14_1 := cz1 BK455.out; have hcz14_2 := cz2 BK455.out; have hcz14_3 := cz3 BK455.out; have hfz14_0 := fz BK455 0; have hfz14_1 := fz BK455 1; have hfz14_2 := fz BK455 2; have hfz14_3 := fz BK455 3)); try go_wp2_with (first | ((with_reducible refine gate_dst (N := 3) rfl ?_); (try (refine gate_guard (by rfl) ?_; dsimp only)); refine bxe (N := 3) (cs := #[.slice A0_0 l0_0.length c0_0, .int .i64 a0_1]) (t := 60) ?_; intro gb454 hg w10 hbox hb; have n0_ := Am (below_step (bl) hb); have n1_ := Am (hbox); have n2_ := Am ((gE hg : w.heap.size ≤ gb454)); have n3_ := Am ((gE hg : w.heap.size ≤ gb454)); clear HB; have HB := n0_; have BK454 := n1_; have GW454 := n2_; have GE454 := n3_; clear n0_ n1_ n2_ n3_; clear hb hbox hg) | ((with_reducible refine gate_dst (N := 4) rfl ?_); (try (refine gate_guard (by rfl) ?_; dsimp only)); refine bxe (N := 4) (cs := #[.slice A1_0 l1_0.length c1_0, .slice A1_1 l1_1.length c1_1, .slice A1_2 l1_2.length c1_2, .slice A1_3 l1_3.length c1_3]) (t := 26) ?_; intro gb455 hg w11 hbox hb; have n0_ := Am (blk_below (kB BK454) hb); have n1_ := Am (below_step (bs) hb); have n2_ := Am (hbox); have n3_ := Am ((gE hg : w.heap.size ≤ gb455)); have n4_ := Am ((gE hg : w.heap.size ≤ gb455)); have n5_ := Am (nL hg BK454); have n6_ := Am (nG hg BK454); clear BK454; clear HB; have BK454 := n0_; have HB := n1_; have BK455 := n2_; have GW455 := n3_; have GE455 := n4_; have NB454_455 := n5_; have NB455_454 := n6_; clear n0_ n1_ n2_ n3_ n4_ n5_ n6_; clear hb hbox hg; have hnb12 := NB454_455.out; have hnc12 := NB455_454.out; have hcz13_0 := cz0 BK454.out; have hcz13_1 := cz1 BK454.out; have hfz13_0 := fz BK454 0; have hfz13_1 := fz BK454 1; have hcz14_0 := cz0 BK455.out; have hcz14_1 := cz1 BK455.out; have hcz14_2 := cz2 BK455.out; have hcz14_3 := cz3 BK455.out; have hfz14_0 := fz BK455 0; have hfz14_1 := fz BK455 1; have hfz14_2 := fz BK455 2; have hfz14_3 := fz BK455 3)))
  go_loopg [7] k (fun kq v7 w' => ∃ (x7_1 : Int), v7 = .int .i64 x7_1 ∧ Aside0 (surmiseref05_step.l0 kq a2 x7_1 l0_0 a0_1 l1_0 l1_1 l1_2 l1_3 = some r) ∧ Aside0 (kq ≤ k) ∧ Aside0 (w'.heap[gb454]? = some (.cells #[(.slice A0_0 l0_0.length c0_0), .int .i64 a0_1] 60 (0, 0))) ∧ Aside0 (w'.heap[gb455]? = some (.cells #[(.slice A1_0 l1_0.length c1_0), (.slice A1_1 l1_1.length c1_1), (.slice A1_2 l1_2.length c1_2), (.slice A1_3 l1_3.length c1_3)] 26 (0, 0))) ∧ Aside0 (Below w.heap.size w w'))
  case atStart => exact ⟨(0), rq, H', ⟨Nat.le_refl _⟩, ⟨kB BK454⟩, ⟨kB BK455⟩, ⟨bs⟩⟩
  case round =>
   clear H'
   try clear c1
   try clear p2
   try clear c4
   try clear c4b0
   try clear c5
   try clear c7
   try clear c12
   try clear hcz13_0
   try clear hcz13_1
   try clear hcz14_0
   try clear hcz14_1
   try clear hcz14_2
   try clear hcz14_3
   try clear hcz8_0
   try clear hcz8_1
   try clear hcz9_0
   try clear hcz9_1
   try clear hcz9_2
   try clear hcz9_3
   try clear hfz13_0
   try clear hfz13_1
   try clear hfz14_0
   try clear hfz14_1
   try clear hfz14_2
   try clear hfz14_3
   try clear hfz8_0
   try clear hfz8_1
   try clear hfz9_0
   try clear hfz9_1
   try clear hfz9_2
   try clear hfz9_3
   obtain ⟨x7_1, rfl, HA, HK1, BK454, BK455, HB⟩ := hrel
   cases gk with
   | zero => exact absurd HA.out (by simp [surmiseref05_step.l0])
   | succ k1 =>
    have H := HA.out
    clear HA
    simp only [surmiseref05_step.l0] at H
    by_cases c15 : x7_1 < (l0_0.length : Int)
    ·
     rw [if_pos c15] at H
     have c15b0 : decide (x7_1 < (l0_0.length : Int)) = true := decide_eq_true c15
     clear c15
     by_cases c16 : 0 ≤ x7_1
     ·
      rw [if_pos c16] at H
      have c16b0 : decide (0 ≤ x7_1) = true := decide_eq_true c16
      clear c16
      have HC17 := Am H
      clear H
      have hnb18 := NB454_455.out
      have hnc18 := NB455_454.out
      have hcz19_0 := cz0 BK454.out
      have hcz19_1 := cz1 BK454.out
      have hfz19_0 := fz BK454 0
      have hfz19_1 := fz BK454 1
      have p456 : 0 ≤ (x7_1 : Int) := of_decide_eq_true az
      have q456 : x7_1 < (l0_0.length : Int) := of_decide_eq_true az
      obtain ⟨ad456, A456_1, c456_1, e456, hx456_0, hx456_1, hl456_1, hi456_1⟩ := at_T68 HR0_0.out x7_1 p456 q456
      cases e456
      replace hx456_0 := hX HB hx456_0
      replace hx456_1 := hX HB hx456_1
      have HR456_1 := Am hi456_1
      have HC456_1 := Am hl456_1
      clear hi456_1 hl456_1
      replace p456 := eq_true p456
      replace q456 := eq_true q456
      go_upto_region 7 with (first | ((with_reducible refine gate_dst (N := 8) rfl ?_); (try (refine gate_guard (by rfl) ?_; dsimp only)); refine bxe (N := 8) (cs := #[.int .i64 0, .slice none 0 0]) (t := 68) ?_; intro gb457 hg w20 hbox hb; have n0_ := Am (blk_below (kB BK454) hb); have n1_ := Am (blk_below (kB BK455) hb); have n2_ := Am (below_step (bs) hb); have n3_ := Am (hbox); have n4_ := Am ((gE hg : w.heap.size ≤ gb457)); have n5_ := Am ((gE hg : w.heap.size ≤ gb457)); have n6_ := Am (nL hg BK454); have n7_ := Am (nG hg BK454); have n8_ := Am (nL hg BK455); have n9_ := Am (nG hg BK455); clear BK454; clear BK455; clear HB; have BK454 := n0_; have BK455 := n1_; have HB := n2_; have BK457 := n3_; have GW457 := n4_; have GE457 := n5_; have NB454_457 := n6_; have NB457_454 := n7_; have NB455_457 := n8_; have NB457_455 := n9_; clear n0_ n1_ n2_ n3_ n4_ n5_ n6_ n7_ n8_ n9_; clear hb hbox hg; have hnb21 := NB457_454.out; have hnc21 := NB454_457.out; have hnb22 := NB457_455.out; have hnc22 := NB455_457.out; have hcz23_0 := cz0 BK457.out; have hcz23_1 := cz1 BK457.out; have hfz23_0 := fz BK457 0; have hfz23_1 := fz BK457 1))
      repeat (go_quiet (first | ((with_reducible refine gate_dst (N := 8) rfl ?_); (try (refine gate_guard (by rfl) ?_; dsimp only)); refine bxe (N := 8) (cs := #[.int .i64 0, .slice none 0 0]) (t := 68) ?_; intro gb457 hg w20 hbox hb; have n0_ := Am (blk_below (kB BK454) hb); have n1_ := Am (blk_below (kB BK455) hb); have n2_ := Am (below_step (bs) hb); have n3_ := Am (hbox); have n4_ := Am ((gE hg : w.heap.size ≤ gb457)); have n5_ := Am ((gE hg : w.heap.size ≤ gb457)); have n6_ := Am (nL hg BK454); have n7_ := Am (nG hg BK454); have n8_ := Am (nL hg BK455); have n9_ := Am (nG hg BK455); clear BK454; clear BK455; clear HB; have BK454 := n0_; have BK455 := n1_; have HB := n2_; have BK457 := n3_; have GW457 := n4_; have GE457 := n5_; have NB454_457 := n6_; have NB457_454 := n7_; have NB455_457 := n8_; have NB457_455 := n9_; clear n0_ n1_ n2_ n3_ n4_ n5_ n6_ n7_ n8_ n9_; clear hb hbox hg; have hnb21 := NB457_454.out; have hnc21 := NB454_457.out; have hnb22 := NB457_455.out; have hnc22 := NB455_457.out; have hcz23_0 := cz0 BK457.out; have hcz23_1 := cz1 BK457.out; have hfz23_0 := fz BK457 0; have hfz23_1 := fz BK457 1)); go_upto_region 7 with (first | ((with_reducible refine gate_dst (N := 8) rfl ?_); (try (refine gate_guard (by rfl) ?_; dsimp only)); refine bxe (N := 8) (cs := #[.int .i64 0, .slice none 0 0]) (t := 68) ?_; intro gb457 hg w20 hbox hb; have n0_ := Am (blk_below (kB BK454) hb); have n1_ := Am (blk_below (kB BK455) hb); have n2_ := Am (below_step (bs) hb); have n3_ := Am (hbox); have n4_ := Am ((gE hg : w.heap.size ≤ gb457)); have n5_ := Am ((gE hg : w.heap.size ≤ gb457)); have n6_ := Am (nL hg BK454); have n7_ := Am (nG hg BK454); have n8_ := Am (nL hg BK455); have n9_ := Am (nG hg BK455); clear BK454; clear BK455; clear HB; have BK454 := n0_; have BK455 := n1_; have HB := n2_; have BK457 := n3_; have GW457 := n4_; have GE457 := n5_; have NB454_457 := n6_; have NB457_454 := n7_; have NB455_457 := n8_; have NB457_455 := n9_; clear n0_ n1_ n2_ n3_ n4_ n5_ n6_ n7_ n8_ n9_; clear hb hbox hg; have hnb21 := NB457_454.out; have hnc21 := NB454_457.out; have hnb22 := NB457_455.out; have hnc22 := NB455_457.out; have hcz23_0 := cz0 BK457.out; have hcz23_1 := cz1 BK457.out; have hfz23_0 := fz BK457 0; have hfz23_1 := fz BK457 1)))
      (try simp only [Act.put, List.setIfInBounds_toArray, List.set_cons_zero, List.set_cons_succ])
      go_cut [39] (fun v39 wc => ∃ (kq : Nat) (x39_16 : Bool), v39 = .bool x39_16 ∧ Aside0 (surmiseref05_step.j1 kq a2 x7_1 x39_16 l0_0 a0_1 l1_0 l1_1 l1_2 l1_3 ((rd_T68 l0_0 x7_1).f0) ((rd_T68 l0_0 x7_1).f1) = some r) ∧ Aside0 (kq ≤ k1) ∧ Aside0 (wc.heap[gb454]? = some (.cells #[(.slice (some ad456) l0_0.length c0_0), .int .i64 a0_1] 60 (0, 0))) ∧ Aside0 (wc.heap[gb455]? = some (.cells #[(.slice A1_0 l1_0.length c1_0), (.slice A1_1 l1_1.length c1_1), (.slice A1_2 l1_2.length c1_2), (.slice A1_3 l1_3.length c1_3)] 26 (0, 0))) ∧ Aside0 (wc.heap[gb457]? = some (.cells #[.int .i64 ((rd_T68 l0_0 x7_1).f0), (.slice A456_1 ((rd_T68 l0_0 x7_1).f1).length c456_1)] 68 (0, 0))) ∧ Aside0 (Below w.heap.size w wc))
      case first =>
       have H := HC17.out
       clear HC17
       by_cases c24 : ((rd_T68 l0_0 x7_1).f0) < 0
       ·
        rw [if_pos c24] at H
        have c24b0 : decide (((rd_T68 l0_0 x7_1).f0) < 0) = true := decide_eq_true c24
        clear c24
        (first | rw [c24b0] | (simp only [i64_w, i32_w]; rw [c24b0]) | skip)
        have H' := Am H
        clear H
        have hnb25 := NB457_454.out
        have hnc25 := NB454_457.out
        have hnb26 := NB457_455.out
        have hnc26 := NB455_457.out
        have hcz27_0 := cz0 BK457.out
        have hcz27_1 := cz1 BK457.out
        have hfz27_0 := fz BK457 0
        have hfz27_1 := fz BK457 1
        go_wp2
        repeat (go_quiet (fail); try go_wp2)
        go_meet
        case rel => exact ⟨_, (true), rq, H', ⟨by have := HK1.out; first | omega | exact Nat.le_refl _⟩, ⟨kZ BK454⟩, ⟨kZ BK455⟩, ⟨by (with_reducible repeat (first | refine blk_drewN ?_ _ | refine blk_drew ?_ | refine blk_alloc ?_ _)); refine blk_put (cs := #[.int .i64 ((rd_T68 l0_0 x7_1).f0), .slice none 0 0]) ?_ 1 _ rfl; (with_reducible repeat (first | refine blk_drewN ?_ _ | refine blk_drew ?_ | refine blk_alloc ?_ _)); refine blk_put (cs := #[.int .i64 0, .slice none 0 0]) ?_ 0 _ rfl; (with_reducible repeat (first | refine blk_drewN ?_ _ | refine blk_drew ?_ | refine blk_alloc ?_ _)); exact BK457.out⟩, ⟨bs⟩⟩
       ·
        rw [if_neg c24] at H
        have c24b0 : decide (((rd_T68 l0_0 x7_1).f0) < 0) = false := decide_eq_false c24
        clear c24
        (first | rw [c24b0] | (simp only [i64_w, i32_w]; rw [c24b0]) | skip)
        have H' := Am H
        clear H
        have hnb28 := NB457_454.out
        have hnc28 := NB454_457.out
        have hnb29 := NB457_455.out
        have hnc29 := NB455_457.out
        have hcz30_0 := cz0 BK457.out
        have hcz30_1 := cz1 BK457.out
        have hfz30_0 := fz BK457 0
        have hfz30_1 := fz BK457 1
        have hnb31 := NB455_454.out
        have hnc31 := NB454_455.out
        have hcz32_0 := cz0 BK455.out
        have hcz32_1 := cz1 BK455.out
        have hcz32_2 := cz2 BK455.out
        have hcz32_3 := cz3 BK455.out
        have hfz32_0 := fz BK455 0
        have hfz32_1 := fz BK455 1
        have hfz32_2 := fz BK455 2
        have hfz32_3 := fz BK455 3
        go_wp2
        repeat (go_quiet (fail); try go_wp2)
        go_meet
        case rel => exact ⟨_, (decide (((rd_T68 l0_0 x7_1).f0) ≥ (l1_1.length : Int))), rq, H', ⟨by have := HK1.out; first | omega | exact Nat.le_refl _⟩, ⟨kZ BK454⟩, ⟨kZ BK455⟩, ⟨by (with_reducible repeat (first | refine blk_drewN ?_ _ | refine blk_drew ?_ | refine blk_alloc ?_ _)); refine blk_put (cs := #[.int .i64 ((rd_T68 l0_0 x7_1).f0), .slice none 0 0]) ?_ 1 _ rfl; (with_reducible repeat (first | refine blk_drewN ?_ _ | refine blk_drew ?_ | refine blk_alloc ?_ _)); refine blk_put (cs := #[.int .i64 0, .slice none 0 0]) ?_ 0 _ rfl; (with_reducible repeat (first | refine blk_drewN ?_ _ | refine blk_drew ?_ | refine blk_alloc ?_ _)); exact BK457.out⟩, ⟨bs⟩⟩
      case rest =>
       clear HC17
       try clear c1
       try clear c2
       try clear p2
       try clear c3
       try clear c4
       try clear c4b0
       try clear p4
       try clear q4
       try clear hx4
       try clear c5
       try clear c7
       try clear c12
       try clear c15
       try clear c15b0
       try clear c16
       try clear c16b0
       try clear c18
       try clear c21
       try clear c22
       try clear c24
       try clear c24b0
       try clear c25
       try clear c26
       try clear c28
       try clear c29
       try clear c31
       try clear hcz13_0
       try clear hcz13_1
       try clear hcz14_0
       try clear hcz14_1
       try clear hcz14_2
       try clear hcz14_3
       try clear hcz19_0
       try clear hcz19_1
       try clear hcz23_0
       try clear hcz23_1
       try clear hcz27_0
       try clear hcz27_1
       try clear hcz30_0
       try clear hcz30_1
       try clear hcz32_0
       try clear hcz32_1
       try clear hcz32_2
       try clear hcz32_3
       try clear hcz8_0
       try clear hcz8_1
       try clear hcz9_0
       try clear hcz9_1
       try clear hcz9_2
       try clear hcz9_3
       try clear hfz13_0
       try clear hfz13_1
       try clear hfz14_0
       try clear hfz14_1
       try clear hfz14_2
       try clear hfz14_3
       try clear hfz19_0
       try clear hfz19_1
       try clear hfz23_0
       try clear hfz23_1
       try clear hfz27_0
       try clear hfz27_1
       try clear hfz30_0
       try clear hfz30_1
       try clear hfz32_0
       try clear hfz32_1
       try clear hfz32_2
       try clear hfz32_3
       try clear hfz8_0
       try clear hfz8_1
       try clear hfz9_0
       try clear hfz9_1
       try clear hfz9_2
       try clear hfz9_3
       try clear hx456_0
       try clear hx456_1
       try clear p2
       try clear p456
       try clear q456
       obtain ⟨kq, x39_16, rfl, HA, HJ16, BK454, BK455, BK457, HB⟩ := hcut
       cases kq with
       | zero => exact absurd HA.out (by simp [surmiseref05_step.j1])
       | succ kj16 =>
        have H := HA.out
        clear HA
        simp only [surmiseref05_step.j1] at H
        by_cases c33 : x39_16 = true
        ·
         subst c33
         have H1 : (some 3) = some r := by rw [if_pos rfl] at H; exact H
         clear H
         have H := H1
         clear H1
         obtain rfl := Option.some.inj H
         go_wp2
         repeat (go_quiet (fail); try go_wp2)
         go_ret
         exact ⟨xq, bs⟩
        ·
         replace c33 := Bool.eq_false_iff.mpr c33
         subst c33
         have H1 : (surmiseref05_step.l1 kj16 a2 x7_1 0 l0_0 a0_1 l1_0 l1_1 l1_2 l1_3 ((rd_T68 l0_0 x7_1).f0) ((rd_T68 l0_0 x7_1).f1)) = some r := by rw [if_neg (show ¬ (false = true) by decide)] at H; exact H
         clear H
         have H := H1
         clear H1
         have H' := Am H
         clear H
         go_wp2
         repeat (go_quiet (fail); try go_wp2)
         go_loopg [9] kj16 (fun kq v9 w' => ∃ (x9_3 : Int), v9 = .int .i64 x9_3 ∧ Aside0 (surmiseref05_step.l1 kq a2 x7_1 x9_3 l0_0 a0_1 l1_0 l1_1 l1_2 l1_3 ((rd_T68 l0_0 x7_1).f0) ((rd_T68 l0_0 x7_1).f1) = some r) ∧ Aside0 (kq ≤ kj16) ∧ Aside0 (w'.heap[gb454]? = some (.cells #[(.slice (some ad456) l0_0.length c0_0), .int .i64 a0_1] 60 (0, 0))) ∧ Aside0 (w'.heap[gb455]? = some (.cells #[(.slice A1_0 l1_0.length c1_0), (.slice A1_1 l1_1.length c1_1), (.slice A1_2 l1_2.length c1_2), (.slice A1_3 l1_3.length c1_3)] 26 (0, 0))) ∧ Aside0 (w'.heap[gb457]? = some (.cells #[.int .i64 ((rd_T68 l0_0 x7_1).f0), (.slice A456_1 ((rd_T68 l0_0 x7_1).f1).length c456_1)] 68 (0, 0))) ∧ Aside0 (Below w.heap.size w w'))
         case atStart => exact ⟨(0), rq, H', ⟨Nat.le_refl _⟩, ⟨kB BK454⟩, ⟨kB BK455⟩, ⟨kB BK457⟩, ⟨bs⟩⟩
         case round =>
          clear H'
          try clear c1
          try clear c2
          try clear p2
          try clear c3
          try clear c4
          try clear c4b0
          try clear p4
          try clear q4
          try clear hx4
          try clear c5
          try clear c7
          try clear c12
          try clear c15
          try clear c15b0
          try clear c16
          try clear c16b0
          try clear c18
          try clear c21
          try clear c22
          try clear c24
          try clear c24b0
          try clear c25
          try clear c26
          try clear c28
          try clear c29
          try clear c31
          try clear c33
          try clear hcz13_0
          try clear hcz13_1
          try clear hcz14_0
          try clear hcz14_1
          try clear hcz14_2
          try clear hcz14_3
          try clear hcz19_0
          try clear hcz19_1
          try clear hcz23_0
          try clear hcz23_1
          try clear hcz27_0
          try clear hcz27_1
          try clear hcz30_0
          try clear hcz30_1
          try clear hcz32_0
          try clear hcz32_1
          try clear hcz32_2
          try clear hcz32_3
          try clear hcz8_0
          try clear hcz8_1
          try clear hcz9_0
          try clear hcz9_1
          try clear hcz9_2
          try clear hcz9_3
          try clear hfz13_0
          try clear hfz13_1
          try clear hfz14_0
          try clear hfz14_1
          try clear hfz14_2
          try clear hfz14_3
          try clear hfz19_0
          try clear hfz19_1
          try clear hfz23_0
          try clear hfz23_1
          try clear hfz27_0
          try clear hfz27_1
          try clear hfz30_0
          try clear hfz30_1
          try clear hfz32_0
          try clear hfz32_1
          try clear hfz32_2
          try clear hfz32_3
          try clear hfz8_0
          try clear hfz8_1
          try clear hfz9_0
          try clear hfz9_1
          try clear hfz9_2
          try clear hfz9_3
          try clear hx456_0
          try clear hx456_1
          try clear p2
          try clear p4
          try clear p456
          try clear q4
          try clear q456
          obtain ⟨x9_3, rfl, HA, HK3, BK454, BK455, BK457, HB⟩ := hrel
          cases gk with
          | zero => exact absurd HA.out (by simp [surmiseref05_step.l1])
          | succ k3 =>
           have H := HA.out
           clear HA
           simp only [surmiseref05_step.l1] at H
           by_cases c34 : x9_3 < x7_1
           ·
            rw [if_pos c34] at H
            have c34b0 : decide (x9_3 < x7_1) = true := decide_eq_true c34
            clear c34
            by_cases c35 : 0 ≤ x9_3
            ·
             rw [if_pos c35] at H
             have c35b0 : decide (0 ≤ x9_3) = true := decide_eq_true c35
             clear c35
             by_cases c36 : x9_3 < (l0_0.length : Int)
             ·
              rw [if_pos c36] at H
              have c36b0 : decide (x9_3 < (l0_0.length : Int)) = true := decide_eq_true c36
              clear c36
              by_cases c37 : ((rd_T68 l0_0 x9_3).f0) = ((rd_T68 l0_0 x7_1).f0)
              ·
               rw [if_pos c37] at H
               have c37b0 : (((rd_T68 l0_0 x9_3).f0) == ((rd_T68 l0_0 x7_1).f0)) = true := beq_iff_eq.mpr c37
               have c37b1 : (((rd_T68 l0_0 x9_3).f0) != ((rd_T68 l0_0 x7_1).f0)) = false := bne_eq_false_iff_eq.mpr c37
               clear c37
               obtain rfl := Option.some.inj H
               have hnb38 := NB454_455.out
               have hnc38 := NB455_454.out
               have hnb39 := NB454_457.out
               have hnc39 := NB457_454.out
               have hcz40_0 := cz0 BK454.out
               have hcz40_1 := cz1 BK454.out
               have hfz40_0 := fz BK454 0
               have hfz40_1 := fz BK454 1
               have p458 : 0 ≤ (x9_3 : Int) := of_decide_eq_true az
               have q458 : x9_3 < (l0_0.length : Int) := of_decide_eq_true az
               obtain ⟨ad458, A458_1, c458_1, e458, hx458_0, hx458_1, hl458_1, hi458_1⟩ := at_T68 HR0_0.out x9_3 p458 q458
               obtain rfl : ad456 = ad458 := (by injection e458)
               replace hx458_0 := hX HB hx458_0
               replace hx458_1 := hX HB hx458_1
               have HR458_1 := Am hi458_1
               have HC458_1 := Am hl458_1
               clear hi458_1 hl458_1
               replace p458 := eq_true p458
               replace q458 := eq_true q458
               have hnb41 := NB457_455.out
               have hnc41 := NB455_457.out
               have hcz42_0 := cz0 BK457.out
               have hcz42_1 := cz1 BK457.out
               have hfz42_0 := fz BK457 0
               have hfz42_1 := fz BK457 1
               go_wp2
               repeat (go_quiet (fail); try go_wp2)
               go_ret
               exact ⟨xq, bs⟩
              ·
               rw [if_neg c37] at H
               have c37b0 : (((rd_T68 l0_0 x9_3).f0) == ((rd_T68 l0_0 x7_1).f0)) = false := beq_eq_false_iff_ne.mpr c37
               have c37b1 : (((rd_T68 l0_0 x9_3).f0) != ((rd_T68 l0_0 x7_1).f0)) = true := bne_iff_ne.mpr c37
               have H' := Am H
               clear H
               have hnb43 := NB454_455.out
               have hnc43 := NB455_454.out
               have hnb44 := NB454_457.out
               have hnc44 := NB457_454.out
               have hcz45_0 := cz0 BK454.out
               have hcz45_1 := cz1 BK454.out
               have hfz45_0 := fz BK454 0
               have hfz45_1 := fz BK454 1
               have p458 : 0 ≤ (x9_3 : Int) := of_decide_eq_true az
               have q458 : x9_3 < (l0_0.length : Int) := of_decide_eq_true az
               obtain ⟨ad458, A458_1, c458_1, e458, hx458_0, hx458_1, hl458_1, hi458_1⟩ := at_T68 HR0_0.out x9_3 p458 q458
               obtain rfl : ad456 = ad458 := (by injection e458)
               replace hx458_0 := hX HB hx458_0
               replace hx458_1 := hX HB hx458_1
               have HR458_1 := Am hi458_1
               have HC458_1 := Am hl458_1
               clear hi458_1 hl458_1
               replace p458 := eq_true p458
               replace q458 := eq_true q458
               have hnb46 := NB457_455.out
               have hnc46 := NB455_457.out
               have hcz47_0 := cz0 BK457.out
               have hcz47_1 := cz1 BK457.out
               have hfz47_0 := fz BK457 0
               have hfz47_1 := fz BK457 1
               go_wp2
               repeat (go_quiet (fail); try go_wp2)
               go_roundg k3
               case measure => have := HK1.out; have := HJ16.out; have := HK3.out; omega
               case rel => exact ⟨(wrap64 (x9_3 + 1)), rq, H', ⟨by have := HK1.out; have := HJ16.out; have := HK3.out; omega⟩, ⟨kB BK454⟩, ⟨kB BK455⟩, ⟨kB BK457⟩, ⟨bs⟩⟩
             ·
              rw [if_neg c36] at H
              exact absurd H (by simp)
            ·
             rw [if_neg c35] at H
             exact absurd H (by simp)
           ·
            rw [if_neg c34] at H
            have c34b0 : decide (x9_3 < x7_1) = false := decide_eq_false c34
            clear c34
            obtain ⟨t459, A480, H⟩ := Option.bind_eq_some_iff.mp H
            replace H : (if t459 = 0 then (surmiseref05_step.l0 k3 a2 (wrap64 (x7_1 + 1)) l0_0 a0_1 l1_0 l1_1 l1_2 l1_3) else (some t459)) = some r := H
            have A48 := Am A480
            clear A480
            by_cases c49 : t459 = 0
            ·
             rw [if_pos c49] at H
             have c49b0 : (t459 == 0) = true := beq_iff_eq.mpr c49
             have c49b1 : (t459 != 0) = false := bne_eq_false_iff_eq.mpr c49
             clear c49
             have H' := Am H
             clear H
             have hnb50 := NB457_454.out
             have hnc50 := NB454_457.out
             have hnb51 := NB457_455.out
             have hnc51 := NB455_457.out
             have hcz52_0 := cz0 BK457.out
             have hcz52_1 := cz1 BK457.out
             have hfz52_0 := fz BK457 0
             have hfz52_1 := fz BK457 1
             have hnb53 := NB455_454.out
             have hnc53 := NB454_455.out
             have hcz54_0 := cz0 BK455.out
             have hcz54_1 := cz1 BK455.out
             have hcz54_2 := cz2 BK455.out
             have hcz54_3 := cz3 BK455.out
             have hfz54_0 := fz BK455 0
             have hfz54_1 := fz BK455 1
             have hfz54_2 := fz BK455 2
             have hfz54_3 := fz BK455 3
             go_wp2_with (first | (go_at_call 61; (with_reducible refine (surmiseref05_code.calls k3 _ _ ((rd_T68 l0_0 x7_1).f1) (l1_1.length : Int) a2 t459 _ ?side1 ?side2 A48.out).mono ?_); (case side1 => exact kC HR456_1); (case side2 => exact HC456_1.out); rintro e w55 ⟨rfl, hb⟩; have n0_ := Am (blk_below (kB BK454) hb); have n1_ := Am (blk_below (kB BK455) hb); have n2_ := Am (blk_below (kB BK457) hb); have n3_ := Am (below_step (bs) hb); clear BK454; clear BK455; clear BK457; clear HB; have BK454 := n0_; have BK455 := n1_; have BK457 := n2_; have HB := n3_; clear n0_ n1_ n2_ n3_; (try clear hb); (try clear hb2); (try clear hk); (try clear hi)))
             repeat (go_quiet (first | (go_at_call 61; (with_reducible refine (surmiseref05_code.calls k3 _ _ ((rd_T68 l0_0 x7_1).f1) (l1_1.length : Int) a2 t459 _ ?side1 ?side2 A48.out).mono ?_); (case side1 => exact kC HR456_1); (case side2 => exact HC456_1.out); rintro e w55 ⟨rfl, hb⟩; have n0_ := Am (blk_below (kB BK454) hb); have n1_ := Am (blk_below (kB BK455) hb); have n2_ := Am (blk_below (kB BK457) hb); have n3_ := Am (below_step (bs) hb); clear BK454; clear BK455; clear BK457; clear HB; have BK454 := n0_; have BK455 := n1_; have BK457 := n2_; have HB := n3_; clear n0_ n1_ n2_ n3_; (try clear hb); (try clear hb2); (try clear hk); (try clear hi))); try go_wp2_with (first | (go_at_call 61; (with_reducible refine (surmiseref05_code.calls k3 _ _ ((rd_T68 l0_0 x7_1).f1) (l1_1.length : Int) a2 t459 _ ?side1 ?side2 A48.out).mono ?_); (case side1 => exact kC HR456_1); (case side2 => exact HC456_1.out); rintro e w55 ⟨rfl, hb⟩; have n0_ := Am (blk_below (kB BK454) hb); have n1_ := Am (blk_below (kB BK455) hb); have n2_ := Am (blk_below (kB BK457) hb); have n3_ := Am (below_step (bs) hb); clear BK454; clear BK455; clear BK457; clear HB; have BK454 := n0_; have BK455 := n1_; have BK457 := n2_; have HB := n3_; clear n0_ n1_ n2_ n3_; (try clear hb); (try clear hb2); (try clear hk); (try clear hi))))
             go_roundg k3
             case measure => have := HK1.out; have := HJ16.out; have := HK3.out; omega
             case rel => exact ⟨(wrap64 (x7_1 + 1)), rq, H', ⟨by have := HK1.out; have := HJ16.out; have := HK3.out; omega⟩, ⟨kB BK454⟩, ⟨kB BK455⟩, ⟨bs⟩⟩
            ·
             rw [if_neg c49] at H
             have c49b0 : (t459 == 0) = false := beq_eq_false_iff_ne.mpr c49
             have c49b1 : (t459 != 0) = true := bne_iff_ne.mpr c49
             obtain rfl := Option.some.inj H
             have hnb56 := NB457_454.out
             have hnc56 := NB454_457.out
             have hnb57 := NB457_455.out
             have hnc57 := NB455_457.out
             have hcz58_0 := cz0 BK457.out
             have hcz58_1 := cz1 BK457.out
             have hfz58_0 := fz BK457 0
             have hfz58_1 := fz BK457 1
             have hnb59 := NB455_454.out
             have hnc59 := NB454_455.out
             have hcz60_0 := cz0 BK455.out
             have hcz60_1 := cz1 BK455.out
             have hcz60_2 := cz2 BK455.out
             have hcz60_3 := cz3 BK455.out
             have hfz60_0 := fz BK455 0
             have hfz60_1 := fz BK455 1
             have hfz60_2 := fz BK455 2
             have hfz60_3 := fz BK455 3
             go_wp2_with (first | (go_at_call 61; (with_reducible refine (surmiseref05_code.calls k3 _ _ ((rd_T68 l0_0 x7_1).f1) (l1_1.length : Int) a2 t459 _ ?side1 ?side2 A48.out).mono ?_); (case side1 => exact kC HR456_1); (case side2 => exact HC456_1.out); rintro e w61 ⟨rfl, hb⟩; have n0_ := Am (blk_below (kB BK454) hb); have n1_ := Am (blk_below (kB BK455) hb); have n2_ := Am (blk_below (kB BK457) hb); have n3_ := Am (below_step (bs) hb); clear BK454; clear BK455; clear BK457; clear HB; have BK454 := n0_; have BK455 := n1_; have BK457 := n2_; have HB := n3_; clear n0_ n1_ n2_ n3_; (try clear hb); (try clear hb2); (try clear hk); (try clear hi)))
             repeat (go_quiet (first | (go_at_call 61; (with_reducible refine (surmiseref05_code.calls k3 _ _ ((rd_T68 l0_0 x7_1).f1) (l1_1.length : Int) a2 t459 _ ?side1 ?side2 A48.out).mono ?_); (case side1 => exact kC HR456_1); (case side2 => exact HC456_1.out); rintro e w61 ⟨rfl, hb⟩; have n0_ := Am (blk_below (kB BK454) hb); have n1_ := Am (blk_below (kB BK455) hb); have n2_ := Am (blk_below (kB BK457) hb); have n3_ := Am (below_step (bs) hb); clear BK454; clear BK455; clear BK457; clear HB; have BK454 := n0_; have BK455 := n1_; have BK457 := n2_; have HB := n3_; clear n0_ n1_ n2_ n3_; (try clear hb); (try clear hb2); (try clear hk); (try clear hi))); try go_wp2_with (first | (go_at_call 61; (with_reducible refine (surmiseref05_code.calls k3 _ _ ((rd_T68 l0_0 x7_1).f1) (l1_1.length : Int) a2 t459 _ ?side1 ?side2 A48.out).mono ?_); (case side1 => exact kC HR456_1); (case side2 => exact HC456_1.out); rintro e w61 ⟨rfl, hb⟩; have n0_ := Am (blk_below (kB BK454) hb); have n1_ := Am (blk_below (kB BK455) hb); have n2_ := Am (blk_below (kB BK457) hb); have n3_ := Am (below_step (bs) hb); clear BK454; clear BK455; clear BK457; clear HB; have BK454 := n0_; have BK455 := n1_; have BK457 := n2_; have HB := n3_; clear n0_ n1_ n2_ n3_; (try clear hb); (try clear hb2); (try clear hk); (try clear hi))))
             go_ret
             exact ⟨xq, bs⟩
     ·
      rw [if_neg c16] at H
      exact absurd H (by simp)
    ·
     rw [if_neg c15] at H
     have c15b0 : decide (x7_1 < (l0_0.length : Int)) = false := decide_eq_false c15
     clear c15
     obtain rfl := Option.some.inj H
     have hnb62 := NB454_455.out
     have hnc62 := NB455_454.out
     have hcz63_0 := cz0 BK454.out
     have hcz63_1 := cz1 BK454.out
     have hfz63_0 := fz BK454 0
     have hfz63_1 := fz BK454 1
     go_wp2
     repeat (go_quiet (fail); try go_wp2)
     go_ret
     exact ⟨xq, bs⟩

end Go.Proofs.Ytdfhbmallnegfaa.PA
