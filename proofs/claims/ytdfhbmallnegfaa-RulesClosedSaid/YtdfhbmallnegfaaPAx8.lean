-- Written by a program (wip/tools/gprint.py: a patched copy of the kit's print) and by hand, for this claim
import Derived.Test.YtdfhbmallnegfaaPAx0
import Derived.Test.YtdfhbmallnegfaaPAx1
import Derived.Test.YtdfhbmallnegfaaPAx3
import Derived.Test.YtdfhbmallnegfaaPAx7
namespace Go.Proofs.Ytdfhbmallnegfaa.PA
open Go.RowKit Go.Proofs.YtdfhbmallnegfaaW.PrintWords Go.Proofs.YtdfhbmallnegfaaW.PrintLast Go.Proofs.YtdfhbmallnegfaaW.PrintMore
attribute [local go_sem] max2_int min2_int max_two min_two max_three min_three max_four min_four   -- for this text's walks alone
set_option linter.unusedVariables false
set_option linter.unusedSimpArgs false

attribute [local go_sem high] eqA30
/-! ### rules_Check: function 10 -/
def rules_Check.l0 : Nat → Int → List ByteArray → List ByteArray → List Int → List (S38) → Int → Int → Int → Int → Option (Int × Int × Int × Int)
 | 0, _, _, _, _, _, _, _, _, _ => none
 | k + 1, x4, x216000, x216001, x216002, x216003, x222000, x222001, x222002, x222003 => if (x222000 == 0 && (x222001 == 0 && (x222002 == 0 && (x222003 == 0)))) = true then (if x4 < (x216003.length : Int) then ((rules_rule.f k x216000 x216001 x216002 x216003 x4).bind fun bt222 => (rules_Check.l0 k (wrap64 (x4 + 1)) x216000 x216001 x216002 x216003 bt222.1 bt222.2.1 bt222.2.2.1 bt222.2.2.2)) else (some (x222000, x222001, x222002, x222003))) else (some (x222000, x222001, x222002, x222003))
def rules_Check.f (k : Nat) (l0_0 : List ByteArray) (l0_1 : List ByteArray) (l0_2 : List Int) (l0_3 : List (S38)) : Option (Int × Int × Int × Int) := (rules_table.f k l0_0 l0_1 l0_2 l0_3).bind fun bt217 => (rules_Check.l0 k 0 l0_0 l0_1 l0_2 l0_3 bt217.1 bt217.2.1 bt217.2.2.1 bt217.2.2.2)
theorem rules_Check.mono_l : ∀ k, (∀ y0 y1 y2 y3 y4 y5 y6 y7 y8, LeO (rules_Check.l0 k y0 y1 y2 y3 y4 y5 y6 y7 y8) (rules_Check.l0 (k + 1) y0 y1 y2 y3 y4 y5 y6 y7 y8))
 | 0 => fun _ _ _ _ _ _ _ _ _ r h => by simp [rules_Check.l0] at h
 | k + 1 => by
  have ih0 := rules_Check.mono_l k
  ·
   intro y0 y1 y2 y3 y4 y5 y6 y7 y8
   unfold rules_Check.l0
   repeat' first
   | (with_reducible exact ih0 _ _ _ _ _ _ _ _ _)
   | (with_reducible exact rules_rule.mono _ _ _ _ _ _)
   | (with_reducible exact rules_table.mono _ _ _ _ _)
   | (with_reducible exact LeO.refl _)
   | (with_reducible exact LeO.none _)
   | (with_reducible refine LeO.ite ?_ ?_)
   | (with_reducible refine LeO.bind ?_ (fun _ => ?_))
   | exact ih0 _ _ _ _ _ _ _ _ _
   | exact rules_rule.mono _ _ _ _ _ _
   | exact rules_table.mono _ _ _ _ _
   | exact LeO.none _
   | refine LeO.ite ?_ ?_
   | refine LeO.bind ?_ (fun _ => ?_)
theorem rules_Check.mono : ∀ a0 a1 a2 a3 k, LeO (rules_Check.f k a0 a1 a2 a3) (rules_Check.f (k + 1) a0 a1 a2 a3) := by
 intro a0 a1 a2 a3 k
 have ih0 := rules_Check.mono_l k
 unfold rules_Check.f
 repeat' first
   | (with_reducible exact ih0 _ _ _ _ _ _ _ _ _)
   | (with_reducible exact rules_rule.mono _ _ _ _ _ _)
   | (with_reducible exact rules_table.mono _ _ _ _ _)
   | (with_reducible exact LeO.refl _)
   | (with_reducible exact LeO.none _)
   | (with_reducible refine LeO.ite ?_ ?_)
   | (with_reducible refine LeO.bind ?_ (fun _ => ?_))
   | exact ih0 _ _ _ _ _ _ _ _ _
   | exact rules_rule.mono _ _ _ _ _ _
   | exact rules_table.mono _ _ _ _ _
   | exact LeO.none _
   | refine LeO.ite ?_ ?_
   | refine LeO.bind ?_ (fun _ => ?_)
set_option maxHeartbeats 8000000 in
set_option maxRecDepth 100000 in
theorem rules_Check.calls (k : Nat) (A0_0 : Option Addr) (c0_0 : Nat) (l0_0 : List ByteArray) (A0_1 : Option Addr) (c0_1 : Nat) (l0_1 : List ByteArray) (A0_2 : Option Addr) (c0_2 : Nat) (l0_2 : List Int) (A0_3 : Option Addr) (c0_3 : Nat) (l0_3 : List (S38)) (r1 : Int) (r2 : Int) (r3 : Int) (r4 : Int) (w : World) (hr0_0 : Kd.C Kd.string w A0_0 l0_0.length l0_0) (hc0_0 : l0_0.length ≤ c0_0) (hr0_1 : Kd.C Kd.string w A0_1 l0_1.length l0_1) (hc0_1 : l0_1.length ≤ c0_1) (hr0_2 : Kd.C (Kd.int .i64) w A0_2 l0_2.length l0_2) (hc0_2 : l0_2.length ≤ c0_2) (hr0_3 : Kd.C k38 w A0_3 l0_3.length l0_3) (hc0_3 : l0_3.length ≤ c0_3) (h : rules_Check.f k l0_0 l0_1 l0_2 l0_3 = some (r1, r2, r3, r4)) :
  Calls Try.prog 10 #[.agg #[.slice A0_0 l0_0.length c0_0, .slice A0_1 l0_1.length c0_1, .slice A0_2 l0_2.length c0_2, .slice A0_3 l0_3.length c0_3]] w fun e w' => e = .returned (.agg #[.int .i64 r1, .int .i64 r2, .int .i64 r3, .int .i64 r4]) ∧ Below w.heap.size w w' := by
 have hu26 := Try.underlying26
 have hu30 := Try.underlying30
 have HR0_0 := Am hr0_0
 have HC0_0 := Am hc0_0
 clear hr0_0 hc0_0
 have HR0_1 := Am hr0_1
 have HC0_1 := Am hc0_1
 clear hr0_1 hc0_1
 have HR0_2 := Am hr0_2
 have HC0_2 := Am hc0_2
 clear hr0_2 hc0_2
 have HR0_3 := Am hr0_3
 have HC0_3 := Am hc0_3
 clear hr0_3 hc0_3
 have HB := Am (Below.refl w.heap.size w)
 have H : ((rules_table.f k l0_0 l0_1 l0_2 l0_3).bind fun bt217 => (rules_Check.l0 k 0 l0_0 l0_1 l0_2 l0_3 bt217.1 bt217.2.1 bt217.2.2.1 bt217.2.2.2)) = some (r1, r2, r3, r4) := h
 clear h
 obtain ⟨⟨t217, t218, t219, t220⟩, A20, H⟩ := Option.bind_eq_some_iff.mp H
 replace H : (rules_Check.l0 k 0 l0_0 l0_1 l0_2 l0_3 t217 t218 t219 t220) = some (r1, r2, r3, r4) := H
 have A2 := Am A20
 clear A20
 have H' := Am H
 clear H
 go_enter Try.func10, Try.ntmps10
 go_wp2_with (first | ((with_reducible refine gate_dst (N := 1) rfl ?_); (try (refine gate_guard (by rfl) ?_; dsimp only)); refine bxe (N := 1) (cs := #[.slice A0_0 l0_0.length c0_0, .slice A0_1 l0_1.length c0_1, .slice A0_2 l0_2.length c0_2, .slice A0_3 l0_3.length c0_3]) (t := 26) ?_; intro gb215 hg w3 hbox hb; have n0_ := Am (below_step (bl) hb); have n1_ := Am (hbox); have n2_ := Am ((gE hg : w.heap.size ≤ gb215)); have n3_ := Am ((gE hg : w.heap.size ≤ gb215)); clear HB; have HB := n0_; have BK215 := n1_; have GW215 := n2_; have GE215 := n3_; clear n0_ n1_ n2_ n3_; clear hb hbox hg) | ((with_reducible refine gate_dst (N := 2) rfl ?_); (try (refine gate_guard (by rfl) ?_; dsimp only)); refine bxe (N := 2) (cs := #[.int .i64 0, .int .i64 0, .int .i64 0, .int .i64 0]) (t := 30) ?_; intro gb216 hg w4 hbox hb; have n0_ := Am (blk_below (kB BK215) hb); have n1_ := Am (below_step (bs) hb); have n2_ := Am (hbox); have n3_ := Am ((gE hg : w.heap.size ≤ gb216)); have n4_ := Am ((gE hg : w.heap.size ≤ gb216)); have n5_ := Am (nL hg BK215); have n6_ := Am (nG hg BK215); clear BK215; clear HB; have BK215 := n0_; have HB := n1_; have BK216 := n2_; have GW216 := n3_; have GE216 := n4_; have NB215_216 := n5_; have NB216_215 := n6_; clear n0_ n1_ n2_ n3_ n4_ n5_ n6_; clear hb hbox hg; have hnb5 := NB215_216.out; have hnc5 := NB216_215.out; have hcz6_0 := cz0 BK215.out; have hcz6_1 := cz1 BK215.out; have hcz6_2 := cz2 BK215.out; have hcz6_3 := cz3 BK215.out; have hfz6_0 := fz BK215 0; have hfz6_1 := fz BK215 1; have hfz6_2 := fz BK215 2; have hfz6_3 := fz BK215 3) | ((with_reducible refine gate_callee (f := 28) rfl ?_); refine goesL_ (some 6) rfl rfl Try.func28 (by kernel_rfl) rfl #[.agg #[.slice A0_0 l0_0.length c0_0, .slice A0_1 l0_1.length c0_1, .slice A0_2 l0_2.length c0_2, .slice A0_3 l0_3.length c0_3]] rfl aq ?_; (with_reducible refine (rules_table.calls k _ _ l0_0 _ _ l0_1 _ _ l0_2 _ _ l0_3 t217 t218 t219 t220 _ ?side1 ?side2 ?side3 ?side4 ?side5 ?side6 ?side7 ?side8 A2.out).mono ?_); (case side1 => exact kC HR0_0); (case side2 => exact HC0_0.out); (case side3 => exact kC HR0_1); (case side4 => exact HC0_1.out); (case side5 => exact kC HR0_2); (case side6 => exact HC0_2.out); (case side7 => exact kC HR0_3); (case side8 => exact HC0_3.out); rintro e w7 ⟨rfl, hb⟩; refine ⟨_, rfl, ?_⟩; have n0_ := Am (blk_below (kB BK215) hb); have n1_ := Am (blk_below (kB BK216) hb); have n2_ := Am (below_step (bs) hb); clear BK215; clear BK216; clear HB; have BK215 := n0_; have BK216 := n1_; have HB := n2_; clear n0_ n1_ n2_; (try clear hb); (try clear hb2); (try clear hk); (try clear hi)) | ((with_reducible refine gate_dst (N := 3) rfl ?_); (try (refine gate_guard (by rfl) ?_; dsimp only)); refine bxe (N := 3) (cs := #[.int .i64 0, .int .i64 0, .int .i64 0, .int .i64 0]) (t := 30) ?_; intro gb221 hg w8 hbox hb; have n0_ := Am (blk_below (kB BK215) hb); have n1_ := Am (blk_below (kB BK216) hb); have n2_ := Am (below_step (bs) hb); have n3_ := Am (hbox); have n4_ := Am ((gE hg : w.heap.size ≤ gb221)); have n5_ := Am ((gE hg : w.heap.size ≤ gb221)); have n6_ := Am (nL hg BK215); have n7_ := Am (nG hg BK215); have n8_ := Am (nL hg BK216); have n9_ := Am (nG hg BK216); clear BK215; clear BK216; clear HB; have BK215 := n0_; have BK216 := n1_; have HB := n2_; have BK221 := n3_; have GW221 := n4_; have GE221 := n5_; have NB215_221 := n6_; have NB221_215 := n7_; have NB216_221 := n8_; have NB221_216 := n9_; clear n0_ n1_ n2_ n3_ n4_ n5_ n6_ n7_ n8_ n9_; clear hb hbox hg; have hnb9 := NB221_215.out; have hnc9 := NB215_221.out; have hnb10 := NB221_216.out; have hnc10 := NB216_221.out; have hcz11_0 := cz0 BK221.out; have hcz11_1 := cz1 BK221.out; have hcz11_2 := cz2 BK221.out; have hcz11_3 := cz3 BK221.out; have hfz11_0 := fz BK221 0; have hfz11_1 := fz BK221 1; have hfz11_2 := fz BK221 2; have hfz11_3 := fz BK221 3))
 go_loopg [4] k (fun kq v4 w' => ∃ (x4_1 : Int) (x222000_1 : Int) (x222001_1 : Int) (x222002_1 : Int) (x222003_1 : Int), v4 = .int .i64 x4_1 ∧ Aside0 (rules_Check.l0 kq x4_1 l0_0 l0_1 l0_2 l0_3 x222000_1 x222001_1 x222002_1 x222003_1 = some (r1, r2, r3, r4)) ∧ Aside0 (kq ≤ k) ∧ Aside0 (w'.heap[gb215]? = some (.cells #[(.slice A0_0 l0_0.length c0_0), (.slice A0_1 l0_1.length c0_1), (.slice A0_2 l0_2.length c0_2), (.slice A0_3 l0_3.length c0_3)] 26 (0, 0))) ∧ Aside0 (w'.heap[gb216]? = some (.cells #[.int .i64 0, .int .i64 0, .int .i64 0, .int .i64 0] 30 (0, 0))) ∧ Aside0 (w'.heap[gb221]? = some (.cells #[.int .i64 x222000_1, .int .i64 x222001_1, .int .i64 x222002_1, .int .i64 x222003_1] 30 (0, 0))) ∧ Aside0 (Below w.heap.size w w'))
 case atStart => exact ⟨(0), (t217), (t218), (t219), (t220), rq, H', ⟨Nat.le_refl _⟩, ⟨kZ BK215⟩, ⟨kZ BK216⟩, ⟨by (with_reducible repeat (first | refine blk_drewN ?_ _ | refine blk_drew ?_ | refine blk_alloc ?_ _)); refine blk_put (cs := #[.int .i64 t217, .int .i64 t218, .int .i64 t219, .int .i64 0]) ?_ 3 _ rfl; (with_reducible repeat (first | refine blk_drewN ?_ _ | refine blk_drew ?_ | refine blk_alloc ?_ _)); refine blk_put (cs := #[.int .i64 t217, .int .i64 t218, .int .i64 0, .int .i64 0]) ?_ 2 _ rfl; (with_reducible repeat (first | refine blk_drewN ?_ _ | refine blk_drew ?_ | refine blk_alloc ?_ _)); refine blk_put (cs := #[.int .i64 t217, .int .i64 0, .int .i64 0, .int .i64 0]) ?_ 1 _ rfl; (with_reducible repeat (first | refine blk_drewN ?_ _ | refine blk_drew ?_ | refine blk_alloc ?_ _)); refine blk_put (cs := #[.int .i64 0, .int .i64 0, .int .i64 0, .int .i64 0]) ?_ 0 _ rfl; (with_reducible repeat (first | refine blk_drewN ?_ _ | refine blk_drew ?_ | refine blk_alloc ?_ _)); exact BK221.out⟩, ⟨bs⟩⟩
 case round =>
  clear H'
  try clear c1
  try clear c2
  try clear p2
  try clear c5
  try clear c9
  try clear c10
  try clear hcz11_0
  try clear hcz11_1
  try clear hcz11_2
  try clear hcz11_3
  try clear hcz6_0
  try clear hcz6_1
  try clear hcz6_2
  try clear hcz6_3
  try clear hfz11_0
  try clear hfz11_1
  try clear hfz11_2
  try clear hfz11_3
  try clear hfz6_0
  try clear hfz6_1
  try clear hfz6_2
  try clear hfz6_3
  obtain ⟨x4_1, x222000_1, x222001_1, x222002_1, x222003_1, rfl, HA, HK1, BK215, BK216, BK221, HB⟩ := hrel
  cases gk with
  | zero => exact absurd HA.out (by simp [rules_Check.l0])
  | succ k1 =>
   have H := HA.out
   clear HA
   simp only [rules_Check.l0] at H
   by_cases c12 : (x222000_1 == 0 && (x222001_1 == 0 && (x222002_1 == 0 && (x222003_1 == 0)))) = true
   ·
    rw [if_pos c12] at H
    have c12b0 : (x222000_1 == 0 && (x222001_1 == 0 && (x222002_1 == 0 && (x222003_1 == 0)))) = true := c12
    (try (have c12b1 : decide (x222000_1 = 0 && (x222001_1 == 0 && (x222002_1 == 0 && (x222003_1 == 0)))) = true := by simpa using c12))
    (try (have c12b2 : (x222000_1 == 0 && (x222001_1 == 0 && (x222002_1 == 0 && (x222003_1 == 0)))) = true := by simpa using c12))
    clear c12
    by_cases c13 : x4_1 < (l0_3.length : Int)
    ·
     rw [if_pos c13] at H
     have c13b0 : decide (x4_1 < (l0_3.length : Int)) = true := decide_eq_true c13
     clear c13
     obtain ⟨⟨t222, t223, t224, t225⟩, A140, H⟩ := Option.bind_eq_some_iff.mp H
     replace H : (rules_Check.l0 k1 (wrap64 (x4_1 + 1)) l0_0 l0_1 l0_2 l0_3 t222 t223 t224 t225) = some (r1, r2, r3, r4) := H
     have A14 := Am A140
     clear A140
     have H' := Am H
     clear H
     have hnb15 := NB221_215.out
     have hnc15 := NB215_221.out
     have hnb16 := NB221_216.out
     have hnc16 := NB216_221.out
     have hcz17_0 := cz0 BK221.out
     have hcz17_1 := cz1 BK221.out
     have hcz17_2 := cz2 BK221.out
     have hcz17_3 := cz3 BK221.out
     have hfz17_0 := fz BK221 0
     have hfz17_1 := fz BK221 1
     have hfz17_2 := fz BK221 2
     have hfz17_3 := fz BK221 3
     have hnb18 := NB215_216.out
     have hnc18 := NB216_215.out
     have hcz19_0 := cz0 BK215.out
     have hcz19_1 := cz1 BK215.out
     have hcz19_2 := cz2 BK215.out
     have hcz19_3 := cz3 BK215.out
     have hfz19_0 := fz BK215 0
     have hfz19_1 := fz BK215 1
     have hfz19_2 := fz BK215 2
     have hfz19_3 := fz BK215 3
     go_wp2_with (first | ((with_reducible refine gate_callee (f := 29) rfl ?_); refine goesL_ (some 21) rfl rfl Try.func29 (by kernel_rfl) rfl #[.agg #[.slice A0_0 l0_0.length c0_0, .slice A0_1 l0_1.length c0_1, .slice A0_2 l0_2.length c0_2, .slice A0_3 l0_3.length c0_3], .int .i64 x4_1] rfl aq ?_; (with_reducible refine (rules_rule.calls k1 _ _ l0_0 _ _ l0_1 _ _ l0_2 _ _ l0_3 x4_1 t222 t223 t224 t225 _ ?side1 ?side2 ?side3 ?side4 ?side5 ?side6 ?side7 ?side8 A14.out).mono ?_); (case side1 => exact kC HR0_0); (case side2 => exact HC0_0.out); (case side3 => exact kC HR0_1); (case side4 => exact HC0_1.out); (case side5 => exact kC HR0_2); (case side6 => exact HC0_2.out); (case side7 => exact kC HR0_3); (case side8 => exact HC0_3.out); rintro e w20 ⟨rfl, hb⟩; refine ⟨_, rfl, ?_⟩; have n0_ := Am (blk_below (kB BK215) hb); have n1_ := Am (blk_below (kB BK216) hb); have n2_ := Am (blk_below (kB BK221) hb); have n3_ := Am (below_step (bs) hb); clear BK215; clear BK216; clear BK221; clear HB; have BK215 := n0_; have BK216 := n1_; have BK221 := n2_; have HB := n3_; clear n0_ n1_ n2_ n3_; (try clear hb); (try clear hb2); (try clear hk); (try clear hi); have hcz21_0 := cz0 BK221.out; have hcz21_1 := cz1 BK221.out; have hcz21_2 := cz2 BK221.out; have hcz21_3 := cz3 BK221.out; have hfz21_0 := fz BK221 0; have hfz21_1 := fz BK221 1; have hfz21_2 := fz BK221 2; have hfz21_3 := fz BK221 3))
     go_roundg k1
     case measure => have := HK1.out; omega
     case rel => exact ⟨(wrap64 (x4_1 + 1)), (t222), (t223), (t224), (t225), rq, H', ⟨by have := HK1.out; omega⟩, ⟨kZ BK215⟩, ⟨kZ BK216⟩, ⟨by (with_reducible repeat (first | refine blk_drewN ?_ _ | refine blk_drew ?_ | refine blk_alloc ?_ _)); refine blk_put (cs := #[.int .i64 t222, .int .i64 t223, .int .i64 t224, .int .i64 x222003_1]) ?_ 3 _ rfl; (with_reducible repeat (first | refine blk_drewN ?_ _ | refine blk_drew ?_ | refine blk_alloc ?_ _)); refine blk_put (cs := #[.int .i64 t222, .int .i64 t223, .int .i64 x222002_1, .int .i64 x222003_1]) ?_ 2 _ rfl; (with_reducible repeat (first | refine blk_drewN ?_ _ | refine blk_drew ?_ | refine blk_alloc ?_ _)); refine blk_put (cs := #[.int .i64 t222, .int .i64 x222001_1, .int .i64 x222002_1, .int .i64 x222003_1]) ?_ 1 _ rfl; (with_reducible repeat (first | refine blk_drewN ?_ _ | refine blk_drew ?_ | refine blk_alloc ?_ _)); refine blk_put (cs := #[.int .i64 x222000_1, .int .i64 x222001_1, .int .i64 x222002_1, .int .i64 x222003_1]) ?_ 0 _ rfl; (with_reducible repeat (first | refine blk_drewN ?_ _ | refine blk_drew ?_ | refine blk_alloc ?_ _)); exact BK221.out⟩, ⟨bs⟩⟩
    ·
     rw [if_neg c13] at H
     have c13b0 : decide (x4_1 < (l0_3.length : Int)) = false := decide_eq_false c13
     clear c13
     simp only [Option.some.injEq, Prod.mk.injEq] at H
     obtain ⟨rfl, rfl, rfl, rfl⟩ := H
     have hnb22 := NB221_215.out
     have hnc22 := NB215_221.out
     have hnb23 := NB221_216.out
     have hnc23 := NB216_221.out
     have hcz24_0 := cz0 BK221.out
     have hcz24_1 := cz1 BK221.out
     have hcz24_2 := cz2 BK221.out
     have hcz24_3 := cz3 BK221.out
     have hfz24_0 := fz BK221 0
     have hfz24_1 := fz BK221 1
     have hfz24_2 := fz BK221 2
     have hfz24_3 := fz BK221 3
     have hnb25 := NB215_216.out
     have hnc25 := NB216_215.out
     have hcz26_0 := cz0 BK215.out
     have hcz26_1 := cz1 BK215.out
     have hcz26_2 := cz2 BK215.out
     have hcz26_3 := cz3 BK215.out
     have hfz26_0 := fz BK215 0
     have hfz26_1 := fz BK215 1
     have hfz26_2 := fz BK215 2
     have hfz26_3 := fz BK215 3
     have hcz27_0 := cz0 BK216.out
     have hcz27_1 := cz1 BK216.out
     have hcz27_2 := cz2 BK216.out
     have hcz27_3 := cz3 BK216.out
     have hfz27_0 := fz BK216 0
     have hfz27_1 := fz BK216 1
     have hfz27_2 := fz BK216 2
     have hfz27_3 := fz BK216 3
     go_wp2
     refine bodyPost_ret (results_cell_row rfl _ _ gb216 30 #[.int .i64 x222000_1, .int .i64 x222001_1, .int .i64 x222002_1, .int .i64 x222003_1] (0, 0) _ rfl (by (with_reducible repeat (first | refine blk_drewN ?_ _ | refine blk_drew ?_ | refine blk_alloc ?_ _)); refine blk_put (cs := #[.int .i64 x222000_1, .int .i64 x222001_1, .int .i64 x222002_1, .int .i64 0]) ?_ 3 _ rfl; (with_reducible repeat (first | refine blk_drewN ?_ _ | refine blk_drew ?_ | refine blk_alloc ?_ _)); refine blk_put (cs := #[.int .i64 x222000_1, .int .i64 x222001_1, .int .i64 0, .int .i64 0]) ?_ 2 _ rfl; (with_reducible repeat (first | refine blk_drewN ?_ _ | refine blk_drew ?_ | refine blk_alloc ?_ _)); refine blk_put (cs := #[.int .i64 x222000_1, .int .i64 0, .int .i64 0, .int .i64 0]) ?_ 1 _ rfl; (with_reducible repeat (first | refine blk_drewN ?_ _ | refine blk_drew ?_ | refine blk_alloc ?_ _)); refine blk_put (cs := #[.int .i64 0, .int .i64 0, .int .i64 0, .int .i64 0]) ?_ 0 _ rfl; (with_reducible repeat (first | refine blk_drewN ?_ _ | refine blk_drew ?_ | refine blk_alloc ?_ _)); exact BK216.out) Try.underlying30 rfl (by kernel_rfl)) rfl ?_
     exact ⟨xq, bs⟩
   ·
    rw [if_neg c12] at H
    have c12b0 : (x222000_1 == 0 && (x222001_1 == 0 && (x222002_1 == 0 && (x222003_1 == 0)))) = false := by simpa using c12
    (try (have c12b1 : decide (x222000_1 = 0 && (x222001_1 == 0 && (x222002_1 == 0 && (x222003_1 == 0)))) = false := by simpa using c12))
    (try (have c12b2 : (x222000_1 == 0 && (x222001_1 == 0 && (x222002_1 == 0 && (x222003_1 == 0)))) = false := by simpa using c12))
    (try (have c12b3 : ¬ (x222000_1 = 0 && (x222001_1 == 0 && (x222002_1 == 0 && (x222003_1 == 0)))) := by simpa using c12))
    clear c12
    simp only [Option.some.injEq, Prod.mk.injEq] at H
    obtain ⟨rfl, rfl, rfl, rfl⟩ := H
    have hnb28 := NB221_215.out
    have hnc28 := NB215_221.out
    have hnb29 := NB221_216.out
    have hnc29 := NB216_221.out
    have hcz30_0 := cz0 BK221.out
    have hcz30_1 := cz1 BK221.out
    have hcz30_2 := cz2 BK221.out
    have hcz30_3 := cz3 BK221.out
    have hfz30_0 := fz BK221 0
    have hfz30_1 := fz BK221 1
    have hfz30_2 := fz BK221 2
    have hfz30_3 := fz BK221 3
    have hnb31 := NB216_215.out
    have hnc31 := NB215_216.out
    have hcz32_0 := cz0 BK216.out
    have hcz32_1 := cz1 BK216.out
    have hcz32_2 := cz2 BK216.out
    have hcz32_3 := cz3 BK216.out
    have hfz32_0 := fz BK216 0
    have hfz32_1 := fz BK216 1
    have hfz32_2 := fz BK216 2
    have hfz32_3 := fz BK216 3
    go_wp2
    refine bodyPost_ret (results_cell_row rfl _ _ gb216 30 #[.int .i64 x222000_1, .int .i64 x222001_1, .int .i64 x222002_1, .int .i64 x222003_1] (0, 0) _ rfl (by (with_reducible repeat (first | refine blk_drewN ?_ _ | refine blk_drew ?_ | refine blk_alloc ?_ _)); refine blk_put (cs := #[.int .i64 x222000_1, .int .i64 x222001_1, .int .i64 x222002_1, .int .i64 0]) ?_ 3 _ rfl; (with_reducible repeat (first | refine blk_drewN ?_ _ | refine blk_drew ?_ | refine blk_alloc ?_ _)); refine blk_put (cs := #[.int .i64 x222000_1, .int .i64 x222001_1, .int .i64 0, .int .i64 0]) ?_ 2 _ rfl; (with_reducible repeat (first | refine blk_drewN ?_ _ | refine blk_drew ?_ | refine blk_alloc ?_ _)); refine blk_put (cs := #[.int .i64 x222000_1, .int .i64 0, .int .i64 0, .int .i64 0]) ?_ 1 _ rfl; (with_reducible repeat (first | refine blk_drewN ?_ _ | refine blk_drew ?_ | refine blk_alloc ?_ _)); refine blk_put (cs := #[.int .i64 0, .int .i64 0, .int .i64 0, .int .i64 0]) ?_ 0 _ rfl; (with_reducible repeat (first | refine blk_drewN ?_ _ | refine blk_drew ?_ | refine blk_alloc ?_ _)); exact BK216.out) Try.underlying30 rfl (by kernel_rfl)) rfl ?_
    exact ⟨xq, bs⟩

/-! ### rules_For: function 13 -/
mutual
def rules_For.j0 : Nat → Int → Int → Bool → List ByteArray → List ByteArray → List Int → List (S38) → Option (Bool)
 | 0, _, _, _, _, _, _, _ => none
 | k + 1, x1, x2, x29, x227000, x227001, x227002, x227003 => if x29 = true then (some false) else (if 0 ≤ x1 then (if x1 < (x227003.length : Int) then (rules_For.l0 k x2 ((rd_T38 x227003 x1).f2) ((rd_T38 x227003 x1).f2) (((rd_T38 x227003 x1).f2).length : Int) 0) else (none)) else (none))
def rules_For.l0 : Nat → Int → List Int → List Int → Int → Int → Option (Bool)
 | 0, _, _, _, _, _ => none
 | k + 1, x2, x7, x36, x37, x38 => if x38 < x37 then (if 0 ≤ x38 then (if x38 < (x36.length : Int) then (if (rd x36 x38) = x2 then (some true) else (rules_For.l0 k x2 x7 x36 x37 (wrap64 (x38 + 1)))) else (none)) else (none)) else (some ((x7.length : Int) == 0))
end
def rules_For.f (k : Nat) (l0_0 : List ByteArray) (l0_1 : List ByteArray) (l0_2 : List Int) (l0_3 : List (S38)) (a1 : Int) (a2 : Int) : Option (Bool) := if a1 < 0 then (rules_For.j0 k a1 a2 true l0_0 l0_1 l0_2 l0_3) else (if a1 ≥ (l0_3.length : Int) then (rules_For.j0 k a1 a2 true l0_0 l0_1 l0_2 l0_3) else (if a2 < 0 then (rules_For.j0 k a1 a2 true l0_0 l0_1 l0_2 l0_3) else (rules_For.j0 k a1 a2 (decide (a2 ≥ (l0_0.length : Int))) l0_0 l0_1 l0_2 l0_3)))
theorem rules_For.mono_l : ∀ k, (∀ y0 y1 y2 y3 y4 y5 y6, LeO (rules_For.j0 k y0 y1 y2 y3 y4 y5 y6) (rules_For.j0 (k + 1) y0 y1 y2 y3 y4 y5 y6)) ∧ (∀ y0 y1 y2 y3 y4, LeO (rules_For.l0 k y0 y1 y2 y3 y4) (rules_For.l0 (k + 1) y0 y1 y2 y3 y4))
 | 0 => ⟨fun _ _ _ _ _ _ _ r h => by simp [rules_For.j0] at h, fun _ _ _ _ _ r h => by simp [rules_For.l0] at h⟩
 | k + 1 => by
  obtain ⟨ih0, ih1⟩ := rules_For.mono_l k
  refine ⟨?_, ?_⟩
  ·
   intro y0 y1 y2 y3 y4 y5 y6
   unfold rules_For.j0
   repeat' first
   | (with_reducible exact ih0 _ _ _ _ _ _ _)
   | (with_reducible exact ih1 _ _ _ _ _)
   | (with_reducible exact LeO.refl _)
   | (with_reducible exact LeO.none _)
   | (with_reducible refine LeO.ite ?_ ?_)
   | (with_reducible refine LeO.bind ?_ (fun _ => ?_))
   | exact ih0 _ _ _ _ _ _ _
   | exact ih1 _ _ _ _ _
   | exact LeO.none _
   | refine LeO.ite ?_ ?_
   | refine LeO.bind ?_ (fun _ => ?_)
  ·
   intro y0 y1 y2 y3 y4
   unfold rules_For.l0
   repeat' first
   | (with_reducible exact ih0 _ _ _ _ _ _ _)
   | (with_reducible exact ih1 _ _ _ _ _)
   | (with_reducible exact LeO.refl _)
   | (with_reducible exact LeO.none _)
   | (with_reducible refine LeO.ite ?_ ?_)
   | (with_reducible refine LeO.bind ?_ (fun _ => ?_))
   | exact ih0 _ _ _ _ _ _ _
   | exact ih1 _ _ _ _ _
   | exact LeO.none _
   | refine LeO.ite ?_ ?_
   | refine LeO.bind ?_ (fun _ => ?_)
theorem rules_For.mono : ∀ a0 a1 a2 a3 a4 a5 k, LeO (rules_For.f k a0 a1 a2 a3 a4 a5) (rules_For.f (k + 1) a0 a1 a2 a3 a4 a5) := by
 intro a0 a1 a2 a3 a4 a5 k
 obtain ⟨ih0, ih1⟩ := rules_For.mono_l k
 unfold rules_For.f
 repeat' first
   | (with_reducible exact ih0 _ _ _ _ _ _ _)
   | (with_reducible exact ih1 _ _ _ _ _)
   | (with_reducible exact LeO.refl _)
   | (with_reducible exact LeO.none _)
   | (with_reducible refine LeO.ite ?_ ?_)
   | (with_reducible refine LeO.bind ?_ (fun _ => ?_))
   | exact ih0 _ _ _ _ _ _ _
   | exact ih1 _ _ _ _ _
   | exact LeO.none _
   | refine LeO.ite ?_ ?_
   | refine LeO.bind ?_ (fun _ => ?_)
set_option maxHeartbeats 8000000 in
set_option maxRecDepth 100000 in
theorem rules_For.calls (k : Nat) (A0_0 : Option Addr) (c0_0 : Nat) (l0_0 : List ByteArray) (A0_1 : Option Addr) (c0_1 : Nat) (l0_1 : List ByteArray) (A0_2 : Option Addr) (c0_2 : Nat) (l0_2 : List Int) (A0_3 : Option Addr) (c0_3 : Nat) (l0_3 : List (S38)) (a1 : Int) (a2 : Int) (r : Bool) (w : World) (hr0_0 : Kd.C Kd.string w A0_0 l0_0.length l0_0) (hc0_0 : l0_0.length ≤ c0_0) (hr0_1 : Kd.C Kd.string w A0_1 l0_1.length l0_1) (hc0_1 : l0_1.length ≤ c0_1) (hr0_2 : Kd.C (Kd.int .i64) w A0_2 l0_2.length l0_2) (hc0_2 : l0_2.length ≤ c0_2) (hr0_3 : Kd.C k38 w A0_3 l0_3.length l0_3) (hc0_3 : l0_3.length ≤ c0_3) (h : rules_For.f k l0_0 l0_1 l0_2 l0_3 a1 a2 = some r) :
  Calls Try.prog 13 #[.agg #[.slice A0_0 l0_0.length c0_0, .slice A0_1 l0_1.length c0_1, .slice A0_2 l0_2.length c0_2, .slice A0_3 l0_3.length c0_3], .int .i64 a1, .int .i64 a2] w fun e w' => e = .returned (.bool r) ∧ Below w.heap.size w w' := by
 have hu26 := Try.underlying26
 have HR0_0 := Am hr0_0
 have HC0_0 := Am hc0_0
 clear hr0_0 hc0_0
 have HR0_1 := Am hr0_1
 have HC0_1 := Am hc0_1
 clear hr0_1 hc0_1
 have HR0_2 := Am hr0_2
 have HC0_2 := Am hc0_2
 clear hr0_2 hc0_2
 have HR0_3 := Am hr0_3
 have HC0_3 := Am hc0_3
 clear hr0_3 hc0_3
 have HB := Am (Below.refl w.heap.size w)
 have H : (if a1 < 0 then (rules_For.j0 k a1 a2 true l0_0 l0_1 l0_2 l0_3) else (if a1 ≥ (l0_3.length : Int) then (rules_For.j0 k a1 a2 true l0_0 l0_1 l0_2 l0_3) else (if a2 < 0 then (rules_For.j0 k a1 a2 true l0_0 l0_1 l0_2 l0_3) else (rules_For.j0 k a1 a2 (decide (a2 ≥ (l0_0.length : Int))) l0_0 l0_1 l0_2 l0_3)))) = some r := h
 clear h
 have HC4 := Am H
 clear H
 go_enter Try.func13, Try.ntmps13
 go_upto_region 1 with (first | ((with_reducible refine gate_dst (N := 3) rfl ?_); (try (refine gate_guard (by rfl) ?_; dsimp only)); refine bxe (N := 3) (cs := #[.slice A0_0 l0_0.length c0_0, .slice A0_1 l0_1.length c0_1, .slice A0_2 l0_2.length c0_2, .slice A0_3 l0_3.length c0_3]) (t := 26) ?_; intro gb226 hg w5 hbox hb; have n0_ := Am (below_step (bl) hb); have n1_ := Am (hbox); have n2_ := Am ((gE hg : w.heap.size ≤ gb226)); have n3_ := Am ((gE hg : w.heap.size ≤ gb226)); clear HB; have HB := n0_; have BK226 := n1_; have GW226 := n2_; have GE226 := n3_; clear n0_ n1_ n2_ n3_; clear hb hbox hg))
 (try simp only [Act.put, List.setIfInBounds_toArray, List.set_cons_zero, List.set_cons_succ])
 go_cut [29] (fun v29 wc => ∃ (kq : Nat) (x29_3 : Bool), v29 = .bool x29_3 ∧ Aside0 (rules_For.j0 kq a1 a2 x29_3 l0_0 l0_1 l0_2 l0_3 = some r) ∧ Aside0 (kq ≤ k) ∧ Aside0 (wc.heap[gb226]? = some (.cells #[(.slice A0_0 l0_0.length c0_0), (.slice A0_1 l0_1.length c0_1), (.slice A0_2 l0_2.length c0_2), (.slice A0_3 l0_3.length c0_3)] 26 (0, 0))) ∧ Aside0 (Below w.heap.size w wc))
 case first =>
  have H := HC4.out
  clear HC4
  by_cases c6 : a1 < 0
  ·
   rw [if_pos c6] at H
   have c6b0 : decide (a1 < 0) = true := decide_eq_true c6
   clear c6
   (first | rw [c6b0] | (simp only [i64_w, i32_w]; rw [c6b0]) | skip)
   have H' := Am H
   clear H
   go_wp2
   go_meet
   case rel => exact ⟨_, (true), rq, H', ⟨by first | omega | exact Nat.le_refl _⟩, ⟨kB BK226⟩, ⟨bs⟩⟩
  ·
   rw [if_neg c6] at H
   have c6b0 : decide (a1 < 0) = false := decide_eq_false c6
   clear c6
   (first | rw [c6b0] | (simp only [i64_w, i32_w]; rw [c6b0]) | skip)
   by_cases c7 : a1 ≥ (l0_3.length : Int)
   ·
    rw [if_pos c7] at H
    have c7b0 : decide ((l0_3.length : Int) ≤ a1) = true := decide_eq_true c7
    clear c7
    have H' := Am H
    clear H
    have hcz8_0 := cz0 BK226.out
    have hcz8_1 := cz1 BK226.out
    have hcz8_2 := cz2 BK226.out
    have hcz8_3 := cz3 BK226.out
    have hfz8_0 := fz BK226 0
    have hfz8_1 := fz BK226 1
    have hfz8_2 := fz BK226 2
    have hfz8_3 := fz BK226 3
    go_wp2
    go_meet
    case rel => exact ⟨_, (true), rq, H', ⟨by first | omega | exact Nat.le_refl _⟩, ⟨kB BK226⟩, ⟨bs⟩⟩
   ·
    rw [if_neg c7] at H
    have c7b0 : decide ((l0_3.length : Int) ≤ a1) = false := decide_eq_false c7
    clear c7
    by_cases c9 : a2 < 0
    ·
     rw [if_pos c9] at H
     have c9b0 : decide (a2 < 0) = true := decide_eq_true c9
     clear c9
     have H' := Am H
     clear H
     have hcz10_0 := cz0 BK226.out
     have hcz10_1 := cz1 BK226.out
     have hcz10_2 := cz2 BK226.out
     have hcz10_3 := cz3 BK226.out
     have hfz10_0 := fz BK226 0
     have hfz10_1 := fz BK226 1
     have hfz10_2 := fz BK226 2
     have hfz10_3 := fz BK226 3
     go_wp2
     go_meet
     case rel => exact ⟨_, (true), rq, H', ⟨by first | omega | exact Nat.le_refl _⟩, ⟨kB BK226⟩, ⟨bs⟩⟩
    ·
     rw [if_neg c9] at H
     have c9b0 : decide (a2 < 0) = false := decide_eq_false c9
     clear c9
     have H' := Am H
     clear H
     have hcz11_0 := cz0 BK226.out
     have hcz11_1 := cz1 BK226.out
     have hcz11_2 := cz2 BK226.out
     have hcz11_3 := cz3 BK226.out
     have hfz11_0 := fz BK226 0
     have hfz11_1 := fz BK226 1
     have hfz11_2 := fz BK226 2
     have hfz11_3 := fz BK226 3
     go_wp2
     go_meet
     case rel => exact ⟨_, (decide (a2 ≥ (l0_0.length : Int))), rq, H', ⟨by first | omega | exact Nat.le_refl _⟩, ⟨kB BK226⟩, ⟨bs⟩⟩
 case rest =>
  clear HC4
  try clear c1
  try clear p2
  try clear c6
  try clear c6b0
  try clear c7
  try clear c7b0
  try clear c9
  try clear c9b0
  try clear hcz10_0
  try clear hcz10_1
  try clear hcz10_2
  try clear hcz10_3
  try clear hcz11_0
  try clear hcz11_1
  try clear hcz11_2
  try clear hcz11_3
  try clear hcz8_0
  try clear hcz8_1
  try clear hcz8_2
  try clear hcz8_3
  try clear hfz10_0
  try clear hfz10_1
  try clear hfz10_2
  try clear hfz10_3
  try clear hfz11_0
  try clear hfz11_1
  try clear hfz11_2
  try clear hfz11_3
  try clear hfz8_0
  try clear hfz8_1
  try clear hfz8_2
  try clear hfz8_3
  obtain ⟨kq, x29_3, rfl, HA, HJ3, BK226, HB⟩ := hcut
  cases kq with
  | zero => exact absurd HA.out (by simp [rules_For.j0])
  | succ kj3 =>
   have H := HA.out
   clear HA
   simp only [rules_For.j0] at H
   by_cases c12 : x29_3 = true
   ·
    subst c12
    have H1 : (some false) = some r := by rw [if_pos rfl] at H; exact H
    clear H
    have H := H1
    clear H1
    obtain rfl := Option.some.inj H
    go_wp2
    go_ret
    exact ⟨xq, bs⟩
   ·
    replace c12 := Bool.eq_false_iff.mpr c12
    subst c12
    have H1 : (if 0 ≤ a1 then (if a1 < (l0_3.length : Int) then (rules_For.l0 kj3 a2 ((rd_T38 l0_3 a1).f2) ((rd_T38 l0_3 a1).f2) (((rd_T38 l0_3 a1).f2).length : Int) 0) else (none)) else (none)) = some r := by rw [if_neg (show ¬ (false = true) by decide)] at H; exact H
    clear H
    have H := H1
    clear H1
    by_cases c13 : 0 ≤ a1
    ·
     rw [if_pos c13] at H
     have c13b0 : decide (0 ≤ a1) = true := decide_eq_true c13
     clear c13
     by_cases c14 : a1 < (l0_3.length : Int)
     ·
      rw [if_pos c14] at H
      have c14b0 : decide (a1 < (l0_3.length : Int)) = true := decide_eq_true c14
      clear c14
      have H' := Am H
      clear H
      have hcz15_0 := cz0 BK226.out
      have hcz15_1 := cz1 BK226.out
      have hcz15_2 := cz2 BK226.out
      have hcz15_3 := cz3 BK226.out
      have hfz15_0 := fz BK226 0
      have hfz15_1 := fz BK226 1
      have hfz15_2 := fz BK226 2
      have hfz15_3 := fz BK226 3
      have p227 : 0 ≤ (a1 : Int) := of_decide_eq_true az
      have q227 : a1 < (l0_3.length : Int) := of_decide_eq_true az
      obtain ⟨ad227, A227_2, c227_2, A227_3, c227_3, A227_4, c227_4, e227, hx227_0, hx227_1, hx227_2, hx227_3, hx227_4, hl227_2, hi227_2, hl227_3, hi227_3, hl227_4, hi227_4⟩ := at_T38 HR0_3.out a1 p227 q227
      cases e227
      replace hx227_0 := hX HB hx227_0
      replace hx227_1 := hX HB hx227_1
      replace hx227_2 := hX HB hx227_2
      replace hx227_3 := hX HB hx227_3
      replace hx227_4 := hX HB hx227_4
      have HR227_2 := Am hi227_2
      have HC227_2 := Am hl227_2
      clear hi227_2 hl227_2
      have HR227_3 := Am hi227_3
      have HC227_3 := Am hl227_3
      clear hi227_3 hl227_3
      have HR227_4 := Am hi227_4
      have HC227_4 := Am hl227_4
      clear hi227_4 hl227_4
      replace p227 := eq_true p227
      replace q227 := eq_true q227
      go_wp2
      go_loopg [38] kj3 (fun kq v38 w' => ∃ (x38_2 : Int), v38 = .int .i64 x38_2 ∧ Aside0 (rules_For.l0 kq a2 ((rd_T38 l0_3 a1).f2) ((rd_T38 l0_3 a1).f2) (((rd_T38 l0_3 a1).f2).length : Int) x38_2 = some r) ∧ Aside0 (kq ≤ kj3) ∧ Aside0 (w'.heap[gb226]? = some (.cells #[(.slice A0_0 l0_0.length c0_0), (.slice A0_1 l0_1.length c0_1), (.slice A0_2 l0_2.length c0_2), (.slice (some ad227) l0_3.length c0_3)] 26 (0, 0))) ∧ Aside0 (Below w.heap.size w w'))
      case atStart => exact ⟨(0), rq, H', ⟨Nat.le_refl _⟩, ⟨kB BK226⟩, ⟨bs⟩⟩
      case round =>
       clear H'
       try clear c1
       try clear c2
       try clear p2
       try clear q2
       try clear hx2
       try clear c6
       try clear c6b0
       try clear c7
       try clear c7b0
       try clear c9
       try clear c9b0
       try clear c12
       try clear c13
       try clear c13b0
       try clear c14
       try clear c14b0
       try clear hcz10_0
       try clear hcz10_1
       try clear hcz10_2
       try clear hcz10_3
       try clear hcz11_0
       try clear hcz11_1
       try clear hcz11_2
       try clear hcz11_3
       try clear hcz15_0
       try clear hcz15_1
       try clear hcz15_2
       try clear hcz15_3
       try clear hcz8_0
       try clear hcz8_1
       try clear hcz8_2
       try clear hcz8_3
       try clear hfz10_0
       try clear hfz10_1
       try clear hfz10_2
       try clear hfz10_3
       try clear hfz11_0
       try clear hfz11_1
       try clear hfz11_2
       try clear hfz11_3
       try clear hfz15_0
       try clear hfz15_1
       try clear hfz15_2
       try clear hfz15_3
       try clear hfz8_0
       try clear hfz8_1
       try clear hfz8_2
       try clear hfz8_3
       try clear hx227_0
       try clear hx227_1
       try clear hx227_2
       try clear hx227_3
       try clear hx227_4
       try clear p2
       try clear p227
       try clear q227
       obtain ⟨x38_2, rfl, HA, HK2, BK226, HB⟩ := hrel
       cases gk with
       | zero => exact absurd HA.out (by simp [rules_For.l0])
       | succ k2 =>
        have H := HA.out
        clear HA
        simp only [rules_For.l0] at H
        by_cases c16 : x38_2 < (((rd_T38 l0_3 a1).f2).length : Int)
        ·
         rw [if_pos c16] at H
         have c16b0 : decide (x38_2 < (((rd_T38 l0_3 a1).f2).length : Int)) = true := decide_eq_true c16
         clear c16
         by_cases c17 : 0 ≤ x38_2
         ·
          rw [if_pos c17] at H
          have c17b0 : decide (0 ≤ x38_2) = true := decide_eq_true c17
          clear c17
          by_cases c18 : x38_2 < (((rd_T38 l0_3 a1).f2).length : Int)
          ·
           rw [if_pos c18] at H
           have c18b0 : decide (x38_2 < (((rd_T38 l0_3 a1).f2).length : Int)) = true := decide_eq_true c18
           clear c18
           by_cases c19 : (rd ((rd_T38 l0_3 a1).f2) x38_2) = a2
           ·
            rw [if_pos c19] at H
            have c19b0 : ((rd ((rd_T38 l0_3 a1).f2) x38_2) == a2) = true := beq_iff_eq.mpr c19
            have c19b1 : ((rd ((rd_T38 l0_3 a1).f2) x38_2) != a2) = false := bne_eq_false_iff_eq.mpr c19
            clear c19
            obtain rfl := Option.some.inj H
            have p228 : 0 ≤ (x38_2 : Int) := of_decide_eq_true az
            have q228 : x38_2 < (((rd_T38 l0_3 a1).f2).length : Int) := of_decide_eq_true az
            obtain ⟨ad228, e228, hx228_0⟩ := Kd.at_int HR227_2.out x38_2 p228 q228
            cases e228
            replace hx228_0 := hX HB hx228_0
            replace p228 := eq_true p228
            replace q228 := eq_true q228
            go_wp2
            go_ret
            exact ⟨xq, bs⟩
           ·
            rw [if_neg c19] at H
            have c19b0 : ((rd ((rd_T38 l0_3 a1).f2) x38_2) == a2) = false := beq_eq_false_iff_ne.mpr c19
            have c19b1 : ((rd ((rd_T38 l0_3 a1).f2) x38_2) != a2) = true := bne_iff_ne.mpr c19
            have H' := Am H
            clear H
            have p228 : 0 ≤ (x38_2 : Int) := of_decide_eq_true az
            have q228 : x38_2 < (((rd_T38 l0_3 a1).f2).length : Int) := of_decide_eq_true az
            obtain ⟨ad228, e228, hx228_0⟩ := Kd.at_int HR227_2.out x38_2 p228 q228
            cases e228
            replace hx228_0 := hX HB hx228_0
            replace p228 := eq_true p228
            replace q228 := eq_true q228
            go_wp2
            go_roundg k2
            case measure => have := HJ3.out; have := HK2.out; omega
            case rel => exact ⟨(wrap64 (x38_2 + 1)), rq, H', ⟨by have := HJ3.out; have := HK2.out; omega⟩, ⟨kB BK226⟩, ⟨bs⟩⟩
          ·
           rw [if_neg c18] at H
           exact absurd H (by simp)
         ·
          rw [if_neg c17] at H
          exact absurd H (by simp)
        ·
         rw [if_neg c16] at H
         have c16b0 : decide (x38_2 < (((rd_T38 l0_3 a1).f2).length : Int)) = false := decide_eq_false c16
         clear c16
         obtain rfl := Option.some.inj H
         go_wp2
         go_ret
         exact ⟨xq, bs⟩
     ·
      rw [if_neg c14] at H
      exact absurd H (by simp)
    ·
     rw [if_neg c13] at H
     exact absurd H (by simp)

/-! ### rules_right: function 34 -/
def rules_right.f (k : Nat) (l0_0 : List ByteArray) (l0_1 : List ByteArray) (l0_2 : List Int) (l0_3 : List (S38)) : Option (Bool) := (rules_Check.f k l0_0 l0_1 l0_2 l0_3).bind fun bt230 => (some (bt230.1 == 0 && (bt230.2.1 == 0 && (bt230.2.2.1 == 0 && (bt230.2.2.2 == 0)))))
theorem rules_right.mono : ∀ a0 a1 a2 a3 k, LeO (rules_right.f k a0 a1 a2 a3) (rules_right.f (k + 1) a0 a1 a2 a3) := by
 intro a0 a1 a2 a3 k
 unfold rules_right.f
 repeat' first
   | (with_reducible exact rules_Check.mono _ _ _ _ _)
   | (with_reducible exact LeO.refl _)
   | (with_reducible exact LeO.none _)
   | (with_reducible refine LeO.ite ?_ ?_)
   | (with_reducible refine LeO.bind ?_ (fun _ => ?_))
   | exact rules_Check.mono _ _ _ _ _
   | exact LeO.none _
   | refine LeO.ite ?_ ?_
   | refine LeO.bind ?_ (fun _ => ?_)
set_option maxHeartbeats 8000000 in
set_option maxRecDepth 100000 in
theorem rules_right.calls (k : Nat) (A0_0 : Option Addr) (c0_0 : Nat) (l0_0 : List ByteArray) (A0_1 : Option Addr) (c0_1 : Nat) (l0_1 : List ByteArray) (A0_2 : Option Addr) (c0_2 : Nat) (l0_2 : List Int) (A0_3 : Option Addr) (c0_3 : Nat) (l0_3 : List (S38)) (r : Bool) (w : World) (hr0_0 : Kd.C Kd.string w A0_0 l0_0.length l0_0) (hc0_0 : l0_0.length ≤ c0_0) (hr0_1 : Kd.C Kd.string w A0_1 l0_1.length l0_1) (hc0_1 : l0_1.length ≤ c0_1) (hr0_2 : Kd.C (Kd.int .i64) w A0_2 l0_2.length l0_2) (hc0_2 : l0_2.length ≤ c0_2) (hr0_3 : Kd.C k38 w A0_3 l0_3.length l0_3) (hc0_3 : l0_3.length ≤ c0_3) (h : rules_right.f k l0_0 l0_1 l0_2 l0_3 = some r) :
  Calls Try.prog 34 #[.agg #[.slice A0_0 l0_0.length c0_0, .slice A0_1 l0_1.length c0_1, .slice A0_2 l0_2.length c0_2, .slice A0_3 l0_3.length c0_3]] w fun e w' => e = .returned (.bool r) ∧ Below w.heap.size w w' := by
 have hu26 := Try.underlying26
 have hu30 := Try.underlying30
 have HR0_0 := Am hr0_0
 have HC0_0 := Am hc0_0
 clear hr0_0 hc0_0
 have HR0_1 := Am hr0_1
 have HC0_1 := Am hc0_1
 clear hr0_1 hc0_1
 have HR0_2 := Am hr0_2
 have HC0_2 := Am hc0_2
 clear hr0_2 hc0_2
 have HR0_3 := Am hr0_3
 have HC0_3 := Am hc0_3
 clear hr0_3 hc0_3
 have HB := Am (Below.refl w.heap.size w)
 have H : ((rules_Check.f k l0_0 l0_1 l0_2 l0_3).bind fun bt230 => (some (bt230.1 == 0 && (bt230.2.1 == 0 && (bt230.2.2.1 == 0 && (bt230.2.2.2 == 0)))))) = some r := h
 clear h
 obtain ⟨⟨t230, t231, t232, t233⟩, A20, H⟩ := Option.bind_eq_some_iff.mp H
 replace H : (some (t230 == 0 && (t231 == 0 && (t232 == 0 && (t233 == 0))))) = some r := H
 have A2 := Am A20
 clear A20
 obtain rfl := Option.some.inj H
 go_enter Try.func34, Try.ntmps34
 go_wp2_with (first | ((with_reducible refine gate_dst (N := 1) rfl ?_); refine bxe (N := 1) (cs := #[.slice A0_0 l0_0.length c0_0, .slice A0_1 l0_1.length c0_1, .slice A0_2 l0_2.length c0_2, .slice A0_3 l0_3.length c0_3]) (t := 26) ?_; intro gb229 hg w3 hbox hb; have n0_ := Am (below_step (bl) hb); have n1_ := Am (hbox); have n2_ := Am ((gE hg : w.heap.size ≤ gb229)); have n3_ := Am ((gE hg : w.heap.size ≤ gb229)); clear HB; have HB := n0_; have BK229 := n1_; have GW229 := n2_; have GE229 := n3_; clear n0_ n1_ n2_ n3_; clear hb hbox hg; have hcz4_0 := cz0 BK229.out; have hcz4_1 := cz1 BK229.out; have hcz4_2 := cz2 BK229.out; have hcz4_3 := cz3 BK229.out; have hfz4_0 := fz BK229 0; have hfz4_1 := fz BK229 1; have hfz4_2 := fz BK229 2; have hfz4_3 := fz BK229 3) | ((with_reducible refine gate_callee (f := 10) rfl ?_); refine goesL_ (some 4) rfl rfl Try.func10 (by kernel_rfl) rfl #[.agg #[.slice A0_0 l0_0.length c0_0, .slice A0_1 l0_1.length c0_1, .slice A0_2 l0_2.length c0_2, .slice A0_3 l0_3.length c0_3]] rfl aq ?_; (with_reducible refine (rules_Check.calls k _ _ l0_0 _ _ l0_1 _ _ l0_2 _ _ l0_3 t230 t231 t232 t233 _ ?side1 ?side2 ?side3 ?side4 ?side5 ?side6 ?side7 ?side8 A2.out).mono ?_); (case side1 => exact kC HR0_0); (case side2 => exact HC0_0.out); (case side3 => exact kC HR0_1); (case side4 => exact HC0_1.out); (case side5 => exact kC HR0_2); (case side6 => exact HC0_2.out); (case side7 => exact kC HR0_3); (case side8 => exact HC0_3.out); rintro e w5 ⟨rfl, hb⟩; refine ⟨_, rfl, ?_⟩; have n0_ := Am (blk_below (kB BK229) hb); have n1_ := Am (below_step (bs) hb); clear BK229; clear HB; have BK229 := n0_; have HB := n1_; clear n0_ n1_; (try clear hb); (try clear hb2); (try clear hk); (try clear hi)))
 go_ret
 exact ⟨xq, bs⟩

/-! ### rules_to: function 35 -/
def rules_to.l0 : Nat → Int → List (S60) → Int → Int → Option (Int)
 | 0, _, _, _, _ => none
 | k + 1, x1, x8, x9, x10 => if x10 < x9 then (if 0 ≤ x10 then (if x10 < (x8.length : Int) then (if ((rd_T60 x8 x10).f1) ≥ 0 then (rules_to.l0 k ((rd_T60 x8 x10).f1) x8 x9 (wrap64 (x10 + 1))) else (rules_to.l0 k x1 x8 x9 (wrap64 (x10 + 1)))) else (none)) else (none)) else (some x1)
def rules_to.f (k : Nat) (a0_0 : ByteArray) (a0_1 : Int) (l0_2 : List Int) (l0_3 : List (S66)) (l0_4 : List (S60)) (a1 : Int) : Option (Int) := rules_to.l0 k a1 l0_4 (l0_4.length : Int) 0
theorem rules_to.mono_l : ∀ k, (∀ y0 y1 y2 y3, LeO (rules_to.l0 k y0 y1 y2 y3) (rules_to.l0 (k + 1) y0 y1 y2 y3))
 | 0 => fun _ _ _ _ r h => by simp [rules_to.l0] at h
 | k + 1 => by
  have ih0 := rules_to.mono_l k
  ·
   intro y0 y1 y2 y3
   unfold rules_to.l0
   repeat' first
   | (with_reducible exact ih0 _ _ _ _)
   | (with_reducible exact LeO.refl _)
   | (with_reducible exact LeO.none _)
   | (with_reducible refine LeO.ite ?_ ?_)
   | (with_reducible refine LeO.bind ?_ (fun _ => ?_))
   | exact ih0 _ _ _ _
   | exact LeO.none _
   | refine LeO.ite ?_ ?_
   | refine LeO.bind ?_ (fun _ => ?_)
theorem rules_to.mono : ∀ a0 a1 a2 a3 a4 a5 k, LeO (rules_to.f k a0 a1 a2 a3 a4 a5) (rules_to.f (k + 1) a0 a1 a2 a3 a4 a5) := by
 intro a0 a1 a2 a3 a4 a5 k
 have ih0 := rules_to.mono_l k
 unfold rules_to.f
 repeat' first
   | (with_reducible exact ih0 _ _ _ _)
   | (with_reducible exact LeO.refl _)
   | (with_reducible exact LeO.none _)
   | (with_reducible refine LeO.ite ?_ ?_)
   | (with_reducible refine LeO.bind ?_ (fun _ => ?_))
   | exact ih0 _ _ _ _
   | exact LeO.none _
   | refine LeO.ite ?_ ?_
   | refine LeO.bind ?_ (fun _ => ?_)
set_option maxHeartbeats 8000000 in
set_option maxRecDepth 100000 in
theorem rules_to.calls (k : Nat) (a0_0 : ByteArray) (a0_1 : Int) (A0_2 : Option Addr) (c0_2 : Nat) (l0_2 : List Int) (A0_3 : Option Addr) (c0_3 : Nat) (l0_3 : List (S66)) (A0_4 : Option Addr) (c0_4 : Nat) (l0_4 : List (S60)) (a1 : Int) (r : Int) (w : World) (hr0_2 : Kd.C (Kd.int .i64) w A0_2 l0_2.length l0_2) (hc0_2 : l0_2.length ≤ c0_2) (hr0_3 : Kd.C k66 w A0_3 l0_3.length l0_3) (hc0_3 : l0_3.length ≤ c0_3) (hr0_4 : Kd.C k60 w A0_4 l0_4.length l0_4) (hc0_4 : l0_4.length ≤ c0_4) (h : rules_to.f k a0_0 a0_1 l0_2 l0_3 l0_4 a1 = some r) :
  Calls Try.prog 35 #[.agg #[.string a0_0, .int .i64 a0_1, .slice A0_2 l0_2.length c0_2, .slice A0_3 l0_3.length c0_3, .slice A0_4 l0_4.length c0_4], .int .i64 a1] w fun e w' => e = .returned (.int .i64 r) ∧ Below w.heap.size w w' := by
 have hu38 := Try.underlying38
 have hu60 := Try.underlying60
 have HR0_2 := Am hr0_2
 have HC0_2 := Am hc0_2
 clear hr0_2 hc0_2
 have HR0_3 := Am hr0_3
 have HC0_3 := Am hc0_3
 clear hr0_3 hc0_3
 have HR0_4 := Am hr0_4
 have HC0_4 := Am hc0_4
 clear hr0_4 hc0_4
 have HB := Am (Below.refl w.heap.size w)
 have H : (rules_to.l0 k a1 l0_4 (l0_4.length : Int) 0) = some r := h
 clear h
 have H' := Am H
 clear H
 go_enter Try.func35, Try.ntmps35
 go_wp2_with (first | ((with_reducible refine gate_dst (N := 2) rfl ?_); refine bxe (N := 2) (cs := #[.string a0_0, .int .i64 a0_1, .slice A0_2 l0_2.length c0_2, .slice A0_3 l0_3.length c0_3, .slice A0_4 l0_4.length c0_4]) (t := 38) ?_; intro gb234 hg w3 hbox hb; have n0_ := Am (below_step (bl) hb); have n1_ := Am (hbox); have n2_ := Am ((gE hg : w.heap.size ≤ gb234)); have n3_ := Am ((gE hg : w.heap.size ≤ gb234)); clear HB; have HB := n0_; have BK234 := n1_; have GW234 := n2_; have GE234 := n3_; clear n0_ n1_ n2_ n3_; clear hb hbox hg; have hcz4_0 := cz0 BK234.out; have hcz4_1 := cz1 BK234.out; have hcz4_2 := cz2 BK234.out; have hcz4_3 := cz3 BK234.out; have hcz4_4 := cz4 BK234.out; have hfz4_0 := fz BK234 0; have hfz4_1 := fz BK234 1; have hfz4_2 := fz BK234 2; have hfz4_3 := fz BK234 3; have hfz4_4 := fz BK234 4))
 go_loopg [1, 10] k (fun kq v1 v10 w' => ∃ (x1_1 : Int) (x10_1 : Int), v1 = .int .i64 x1_1 ∧ v10 = .int .i64 x10_1 ∧ Aside0 (rules_to.l0 kq x1_1 l0_4 (l0_4.length : Int) x10_1 = some r) ∧ Aside0 (kq ≤ k) ∧ Aside0 (w'.heap[gb234]? = some (.cells #[.string a0_0, .int .i64 a0_1, (.slice A0_2 l0_2.length c0_2), (.slice A0_3 l0_3.length c0_3), (.slice A0_4 l0_4.length c0_4)] 38 (0, 0))) ∧ Aside0 (Below w.heap.size w w'))
 case atStart => exact ⟨(a1), (0), rq, rq, H', ⟨Nat.le_refl _⟩, ⟨kB BK234⟩, ⟨bs⟩⟩
 case round =>
  clear H'
  try clear p2
  try clear c3
  try clear hcz4_0
  try clear hcz4_1
  try clear hcz4_2
  try clear hcz4_3
  try clear hcz4_4
  try clear hfz4_0
  try clear hfz4_1
  try clear hfz4_2
  try clear hfz4_3
  try clear hfz4_4
  obtain ⟨x1_1, x10_1, rfl, rfl, HA, HK1, BK234, HB⟩ := hrel
  cases gk with
  | zero => exact absurd HA.out (by simp [rules_to.l0])
  | succ k1 =>
   have H := HA.out
   clear HA
   simp only [rules_to.l0] at H
   by_cases c5 : x10_1 < (l0_4.length : Int)
   ·
    rw [if_pos c5] at H
    have c5b0 : decide (x10_1 < (l0_4.length : Int)) = true := decide_eq_true c5
    clear c5
    by_cases c6 : 0 ≤ x10_1
    ·
     rw [if_pos c6] at H
     have c6b0 : decide (0 ≤ x10_1) = true := decide_eq_true c6
     clear c6
     by_cases c7 : x10_1 < (l0_4.length : Int)
     ·
      rw [if_pos c7] at H
      have c7b0 : decide (x10_1 < (l0_4.length : Int)) = true := decide_eq_true c7
      clear c7
      by_cases c8 : ((rd_T60 l0_4 x10_1).f1) ≥ 0
      ·
       rw [if_pos c8] at H
       have c8b0 : decide (0 ≤ ((rd_T60 l0_4 x10_1).f1)) = true := decide_eq_true c8
       clear c8
       have H' := Am H
       clear H
       have p235 : 0 ≤ (x10_1 : Int) := of_decide_eq_true az
       have q235 : x10_1 < (l0_4.length : Int) := of_decide_eq_true az
       obtain ⟨ad235, A235_0, c235_0, e235, hx235_0, hx235_1, hl235_0, hi235_0⟩ := at_T60 HR0_4.out x10_1 p235 q235
       cases e235
       replace hx235_0 := hX HB hx235_0
       replace hx235_1 := hX HB hx235_1
       have HR235_0 := Am hi235_0
       have HC235_0 := Am hl235_0
       clear hi235_0 hl235_0
       replace p235 := eq_true p235
       replace q235 := eq_true q235
       go_wp2_with (first | ((with_reducible refine gate_dst (N := 6) rfl ?_); refine bxe (N := 6) (cs := #[.slice none 0 0, .int .i64 0]) (t := 60) ?_; intro gb236 hg w9 hbox hb; have n0_ := Am (blk_below (kB BK234) hb); have n1_ := Am (below_step (bs) hb); have n2_ := Am (hbox); have n3_ := Am ((gE hg : w.heap.size ≤ gb236)); have n4_ := Am ((gE hg : w.heap.size ≤ gb236)); have n5_ := Am (nL hg BK234); have n6_ := Am (nG hg BK234); clear BK234; clear HB; have BK234 := n0_; have HB := n1_; have BK236 := n2_; have GW236 := n3_; have GE236 := n4_; have NB234_236 := n5_; have NB236_234 := n6_; clear n0_ n1_ n2_ n3_ n4_ n5_ n6_; clear hb hbox hg; have hnb10 := NB236_234.out; have hnc10 := NB234_236.out; have hcz11_0 := cz0 BK236.out; have hcz11_1 := cz1 BK236.out; have hfz11_0 := fz BK236 0; have hfz11_1 := fz BK236 1))
       go_roundg k1
       case measure => have := HK1.out; omega
       case rel => exact ⟨((rd_T60 l0_4 x10_1).f1), (wrap64 (x10_1 + 1)), rq, rq, H', ⟨by have := HK1.out; omega⟩, ⟨kZ BK234⟩, ⟨bs⟩⟩
      ·
       rw [if_neg c8] at H
       have c8b0 : decide (0 ≤ ((rd_T60 l0_4 x10_1).f1)) = false := decide_eq_false c8
       clear c8
       have H' := Am H
       clear H
       have p235 : 0 ≤ (x10_1 : Int) := of_decide_eq_true az
       have q235 : x10_1 < (l0_4.length : Int) := of_decide_eq_true az
       obtain ⟨ad235, A235_0, c235_0, e235, hx235_0, hx235_1, hl235_0, hi235_0⟩ := at_T60 HR0_4.out x10_1 p235 q235
       cases e235
       replace hx235_0 := hX HB hx235_0
       replace hx235_1 := hX HB hx235_1
       have HR235_0 := Am hi235_0
       have HC235_0 := Am hl235_0
       clear hi235_0 hl235_0
       replace p235 := eq_true p235
       replace q235 := eq_true q235
       go_wp2_with (first | ((with_reducible refine gate_dst (N := 6) rfl ?_); refine bxe (N := 6) (cs := #[.slice none 0 0, .int .i64 0]) (t := 60) ?_; intro gb236 hg w12 hbox hb; have n0_ := Am (blk_below (kB BK234) hb); have n1_ := Am (below_step (bs) hb); have n2_ := Am (hbox); have n3_ := Am ((gE hg : w.heap.size ≤ gb236)); have n4_ := Am ((gE hg : w.heap.size ≤ gb236)); have n5_ := Am (nL hg BK234); have n6_ := Am (nG hg BK234); clear BK234; clear HB; have BK234 := n0_; have HB := n1_; have BK236 := n2_; have GW236 := n3_; have GE236 := n4_; have NB234_236 := n5_; have NB236_234 := n6_; clear n0_ n1_ n2_ n3_ n4_ n5_ n6_; clear hb hbox hg; have hnb13 := NB236_234.out; have hnc13 := NB234_236.out; have hcz14_0 := cz0 BK236.out; have hcz14_1 := cz1 BK236.out; have hfz14_0 := fz BK236 0; have hfz14_1 := fz BK236 1))
       go_roundg k1
       case measure => have := HK1.out; omega
       case rel => exact ⟨(x1_1), (wrap64 (x10_1 + 1)), rq, rq, H', ⟨by have := HK1.out; omega⟩, ⟨kZ BK234⟩, ⟨bs⟩⟩
     ·
      rw [if_neg c7] at H
      exact absurd H (by simp)
    ·
     rw [if_neg c6] at H
     exact absurd H (by simp)
   ·
    rw [if_neg c5] at H
    have c5b0 : decide (x10_1 < (l0_4.length : Int)) = false := decide_eq_false c5
    clear c5
    obtain rfl := Option.some.inj H
    go_wp2
    go_ret
    exact ⟨xq, bs⟩

end Go.Proofs.Ytdfhbmallnegfaa.PA
