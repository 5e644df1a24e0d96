-- Written by a program (wip/tools/gprint.py: a patched copy of the kit's print) and by hand, for this claim
import Derived.Test.YtdfhbmallnegfaaPAx0
import Derived.Test.YtdfhbmallnegfaaPAx2
namespace Go.Proofs.Ytdfhbmallnegfaa.PA
open Go.RowKit Go.Proofs.YtdfhbmallnegfaaW.PrintWords Go.Proofs.YtdfhbmallnegfaaW.PrintLast Go.Proofs.YtdfhbmallnegfaaW.PrintMore
attribute [local go_sem] max2_int min2_int max_two min_two max_three min_three max_four min_four   -- for this text's walks alone
set_option linter.unusedVariables false
set_option linter.unusedSimpArgs false

/-! ### rules_table: function 28 -/
mutual
def rules_table.j0 : Nat → Int → Int → Bool → List ByteArray → List ByteArray → List Int → List (S38) → Option (Int × Int × Int × Int)
 | 0, _, _, _, _, _, _, _ => none
 | k + 1, x4, x5, x14, x114000, x114001, x114002, x114003 => if x14 = true then ((rules_table_1.f 1 0 2).bind fun bt117 => (some (bt117.1, bt117.2.1, bt117.2.2.1, bt117.2.2.2))) else (if x5 = 0 then ((rules_names.f k x114001 6).bind fun bt125 => (if bt125.2 = 0 then (if (x114002.length : Int) = (x114001.length : Int) then (rules_table.l0 k x114002 (x114002.length : Int) 0 x114000 x114001 x114002 x114003) else ((rules_table_1.f 3 0 2).bind fun bt131 => (some (bt131.1, bt131.2.1, bt131.2.2.1, bt131.2.2.2)))) else ((rules_table_1.f 2 bt125.1 bt125.2).bind fun bt127 => (some (bt127.1, bt127.2.1, bt127.2.2.1, bt127.2.2.2))))) else ((rules_table_1.f 1 x4 x5).bind fun bt121 => (some (bt121.1, bt121.2.1, bt121.2.2.1, bt121.2.2.2))))
def rules_table.l0 : Nat → List Int → Int → Int → List ByteArray → List ByteArray → List Int → List (S38) → Option (Int × Int × Int × Int)
 | 0, _, _, _, _, _, _, _ => none
 | k + 1, x54, x55, x56, x114000, x114001, x114002, x114003 => if x56 < x55 then (if 0 ≤ x56 then (if x56 < (x54.length : Int) then ((rules_value.f (rd x54 x56)).bind fun t140 => (if t140 = true then (rules_table.l0 k x54 x55 (wrap64 (x56 + 1)) x114000 x114001 x114002 x114003) else ((rules_table_1.f 3 x56 3).bind fun bt141 => (some (bt141.1, bt141.2.1, bt141.2.2.1, bt141.2.2.2))))) else (none)) else (none)) else (if (x114003.length : Int) > 12 then ((rules_table_1.f 4 0 4).bind fun bt135 => (some (bt135.1, bt135.2.1, bt135.2.2.1, bt135.2.2.2))) else (some (0, 0, 0, 0)))
end
def rules_table.f (k : Nat) (l0_0 : List ByteArray) (l0_1 : List ByteArray) (l0_2 : List Int) (l0_3 : List (S38)) : Option (Int × Int × Int × Int) := (rules_names.f k l0_0 8).bind fun bt115 => (if bt115.2 = 0 then (rules_table.j0 k bt115.1 bt115.2 ((l0_0.length : Int) == 0) l0_0 l0_1 l0_2 l0_3) else (rules_table.j0 k bt115.1 bt115.2 false l0_0 l0_1 l0_2 l0_3))
theorem rules_table.mono_l : ∀ k, (∀ y0 y1 y2 y3 y4 y5 y6, LeO (rules_table.j0 k y0 y1 y2 y3 y4 y5 y6) (rules_table.j0 (k + 1) y0 y1 y2 y3 y4 y5 y6)) ∧ (∀ y0 y1 y2 y3 y4 y5 y6, LeO (rules_table.l0 k y0 y1 y2 y3 y4 y5 y6) (rules_table.l0 (k + 1) y0 y1 y2 y3 y4 y5 y6))
 | 0 => ⟨fun _ _ _ _ _ _ _ r h => by simp [rules_table.j0] at h, fun _ _ _ _ _ _ _ r h => by simp [rules_table.l0] at h⟩
 | k + 1 => by
  obtain ⟨ih0, ih1⟩ := rules_table.mono_l k
  refine ⟨?_, ?_⟩
  ·
   intro y0 y1 y2 y3 y4 y5 y6
   unfold rules_table.j0
   repeat' first
   | (with_reducible exact ih0 _ _ _ _ _ _ _)
   | (with_reducible exact ih1 _ _ _ _ _ _ _)
   | (with_reducible exact rules_names.mono _ _ _)
   | (with_reducible exact LeO.refl _)
   | (with_reducible exact LeO.none _)
   | (with_reducible refine LeO.ite ?_ ?_)
   | (with_reducible refine LeO.bind ?_ (fun _ => ?_))
   | exact ih0 _ _ _ _ _ _ _
   | exact ih1 _ _ _ _ _ _ _
   | exact rules_names.mono _ _ _
   | exact LeO.none _
   | refine LeO.ite ?_ ?_
   | refine LeO.bind ?_ (fun _ => ?_)
  ·
   intro y0 y1 y2 y3 y4 y5 y6
   unfold rules_table.l0
   repeat' first
   | (with_reducible exact ih0 _ _ _ _ _ _ _)
   | (with_reducible exact ih1 _ _ _ _ _ _ _)
   | (with_reducible exact rules_names.mono _ _ _)
   | (with_reducible exact LeO.refl _)
   | (with_reducible exact LeO.none _)
   | (with_reducible refine LeO.ite ?_ ?_)
   | (with_reducible refine LeO.bind ?_ (fun _ => ?_))
   | exact ih0 _ _ _ _ _ _ _
   | exact ih1 _ _ _ _ _ _ _
   | exact rules_names.mono _ _ _
   | exact LeO.none _
   | refine LeO.ite ?_ ?_
   | refine LeO.bind ?_ (fun _ => ?_)
theorem rules_table.mono : ∀ a0 a1 a2 a3 k, LeO (rules_table.f k a0 a1 a2 a3) (rules_table.f (k + 1) a0 a1 a2 a3) := by
 intro a0 a1 a2 a3 k
 obtain ⟨ih0, ih1⟩ := rules_table.mono_l k
 unfold rules_table.f
 repeat' first
   | (with_reducible exact ih0 _ _ _ _ _ _ _)
   | (with_reducible exact ih1 _ _ _ _ _ _ _)
   | (with_reducible exact rules_names.mono _ _ _)
   | (with_reducible exact LeO.refl _)
   | (with_reducible exact LeO.none _)
   | (with_reducible refine LeO.ite ?_ ?_)
   | (with_reducible refine LeO.bind ?_ (fun _ => ?_))
   | exact ih0 _ _ _ _ _ _ _
   | exact ih1 _ _ _ _ _ _ _
   | exact rules_names.mono _ _ _
   | exact LeO.none _
   | refine LeO.ite ?_ ?_
   | refine LeO.bind ?_ (fun _ => ?_)
set_option maxHeartbeats 8000000 in
set_option maxRecDepth 100000 in
theorem rules_table.calls (k : Nat) (A0_0 : Option Addr) (c0_0 : Nat) (l0_0 : List ByteArray) (A0_1 : Option Addr) (c0_1 : Nat) (l0_1 : List ByteArray) (A0_2 : Option Addr) (c0_2 : Nat) (l0_2 : List Int) (A0_3 : Option Addr) (c0_3 : Nat) (l0_3 : List (S38)) (r1 : Int) (r2 : Int) (r3 : Int) (r4 : Int) (w : World) (hr0_0 : Kd.C Kd.string w A0_0 l0_0.length l0_0) (hc0_0 : l0_0.length ≤ c0_0) (hr0_1 : Kd.C Kd.string w A0_1 l0_1.length l0_1) (hc0_1 : l0_1.length ≤ c0_1) (hr0_2 : Kd.C (Kd.int .i64) w A0_2 l0_2.length l0_2) (hc0_2 : l0_2.length ≤ c0_2) (hr0_3 : Kd.C k38 w A0_3 l0_3.length l0_3) (hc0_3 : l0_3.length ≤ c0_3) (h : rules_table.f k l0_0 l0_1 l0_2 l0_3 = some (r1, r2, r3, r4)) :
  Calls Try.prog 28 #[.agg #[.slice A0_0 l0_0.length c0_0, .slice A0_1 l0_1.length c0_1, .slice A0_2 l0_2.length c0_2, .slice A0_3 l0_3.length c0_3]] w fun e w' => e = .returned (.agg #[.int .i64 r1, .int .i64 r2, .int .i64 r3, .int .i64 r4]) ∧ Below w.heap.size w w' := by
 have hu26 := Try.underlying26
 have hu30 := Try.underlying30
 have HR0_0 := Am hr0_0
 have HC0_0 := Am hc0_0
 clear hr0_0 hc0_0
 have HR0_1 := Am hr0_1
 have HC0_1 := Am hc0_1
 clear hr0_1 hc0_1
 have HR0_2 := Am hr0_2
 have HC0_2 := Am hc0_2
 clear hr0_2 hc0_2
 have HR0_3 := Am hr0_3
 have HC0_3 := Am hc0_3
 clear hr0_3 hc0_3
 have HB := Am (Below.refl w.heap.size w)
 have H : ((rules_names.f k l0_0 8).bind fun bt115 => (if bt115.2 = 0 then (rules_table.j0 k bt115.1 bt115.2 ((l0_0.length : Int) == 0) l0_0 l0_1 l0_2 l0_3) else (rules_table.j0 k bt115.1 bt115.2 false l0_0 l0_1 l0_2 l0_3))) = some (r1, r2, r3, r4) := h
 clear h
 obtain ⟨⟨t115, t116⟩, A20, H⟩ := Option.bind_eq_some_iff.mp H
 replace H : (if t116 = 0 then (rules_table.j0 k t115 t116 ((l0_0.length : Int) == 0) l0_0 l0_1 l0_2 l0_3) else (rules_table.j0 k t115 t116 false l0_0 l0_1 l0_2 l0_3)) = some (r1, r2, r3, r4) := H
 have A2 := Am A20
 clear A20
 have HC3 := Am H
 clear H
 go_enter Try.func28, Try.ntmps28
 go_upto_region 3 with (first | ((with_reducible refine gate_dst (N := 1) rfl ?_); (try (refine gate_guard (by rfl) ?_; dsimp only)); refine bxe (N := 1) (cs := #[.slice A0_0 l0_0.length c0_0, .slice A0_1 l0_1.length c0_1, .slice A0_2 l0_2.length c0_2, .slice A0_3 l0_3.length c0_3]) (t := 26) ?_; intro gb113 hg w4 hbox hb; have n0_ := Am (below_step (bl) hb); have n1_ := Am (hbox); have n2_ := Am ((gE hg : w.heap.size ≤ gb113)); have n3_ := Am ((gE hg : w.heap.size ≤ gb113)); clear HB; have HB := n0_; have BK113 := n1_; have GW113 := n2_; have GE113 := n3_; clear n0_ n1_ n2_ n3_; clear hb hbox hg) | ((with_reducible refine gate_dst (N := 2) rfl ?_); (try (refine gate_guard (by rfl) ?_; dsimp only)); refine bxe (N := 2) (cs := #[.int .i64 0, .int .i64 0, .int .i64 0, .int .i64 0]) (t := 30) ?_; intro gb114 hg w5 hbox hb; have n0_ := Am (blk_below (kB BK113) hb); have n1_ := Am (below_step (bs) hb); have n2_ := Am (hbox); have n3_ := Am ((gE hg : w.heap.size ≤ gb114)); have n4_ := Am ((gE hg : w.heap.size ≤ gb114)); have n5_ := Am (nL hg BK113); have n6_ := Am (nG hg BK113); clear BK113; clear HB; have BK113 := n0_; have HB := n1_; have BK114 := n2_; have GW114 := n3_; have GE114 := n4_; have NB113_114 := n5_; have NB114_113 := n6_; clear n0_ n1_ n2_ n3_ n4_ n5_ n6_; clear hb hbox hg; have hnb6 := NB113_114.out; have hnc6 := NB114_113.out; have hcz7_0 := cz0 BK113.out; have hcz7_1 := cz1 BK113.out; have hcz7_2 := cz2 BK113.out; have hcz7_3 := cz3 BK113.out; have hfz7_0 := fz BK113 0; have hfz7_1 := fz BK113 1; have hfz7_2 := fz BK113 2; have hfz7_3 := fz BK113 3) | ((with_reducible refine gate_callee (f := 44) rfl ?_); refine goesL_ (some 11) rfl rfl Try.func44 (by kernel_rfl) rfl #[.slice A0_0 l0_0.length c0_0, .int .i64 8] rfl aq ?_; (with_reducible refine (rules_names.calls k _ _ l0_0 8 t115 t116 _ ?side1 ?side2 A2.out).mono ?_); (case side1 => exact kC HR0_0); (case side2 => exact HC0_0.out); rintro e w' ⟨rfl, ⟨nd, rfl⟩⟩; refine ⟨_, rfl, ?_⟩))
 (try simp only [Act.put, List.setIfInBounds_toArray, List.set_cons_zero, List.set_cons_succ])
 go_cut [14] (fun v14 wc => ∃ (kq : Nat) (x14_2 : Bool), v14 = .bool x14_2 ∧ Aside0 (rules_table.j0 kq t115 t116 x14_2 l0_0 l0_1 l0_2 l0_3 = some (r1, r2, r3, r4)) ∧ Aside0 (kq ≤ k) ∧ Aside0 (wc.heap[gb113]? = some (.cells #[(.slice A0_0 l0_0.length c0_0), (.slice A0_1 l0_1.length c0_1), (.slice A0_2 l0_2.length c0_2), (.slice A0_3 l0_3.length c0_3)] 26 (0, 0))) ∧ Aside0 (wc.heap[gb114]? = some (.cells #[.int .i64 0, .int .i64 0, .int .i64 0, .int .i64 0] 30 (0, 0))) ∧ Aside0 (Below w.heap.size w wc))
 case first =>
  have H := HC3.out
  clear HC3
  by_cases c8 : t116 = 0
  ·
   rw [if_pos c8] at H
   have c8b0 : (t116 == 0) = true := beq_iff_eq.mpr c8
   have c8b1 : (t116 != 0) = false := bne_eq_false_iff_eq.mpr c8
   clear c8
   (first | rw [c8b0] | (simp only [i64_w, i32_w]; rw [c8b0]) | skip)
   have H' := Am H
   clear H
   have hnb9 := NB113_114.out
   have hnc9 := NB114_113.out
   have hcz10_0 := cz0 BK113.out
   have hcz10_1 := cz1 BK113.out
   have hcz10_2 := cz2 BK113.out
   have hcz10_3 := cz3 BK113.out
   have hfz10_0 := fz BK113 0
   have hfz10_1 := fz BK113 1
   have hfz10_2 := fz BK113 2
   have hfz10_3 := fz BK113 3
   go_wp2
   go_meet
   case rel => exact ⟨_, (((l0_0.length : Int) == 0)), rq, H', ⟨by first | omega | exact Nat.le_refl _⟩, ⟨kB BK113⟩, ⟨kB BK114⟩, ⟨bs⟩⟩
  ·
   rw [if_neg c8] at H
   have c8b0 : (t116 == 0) = false := beq_eq_false_iff_ne.mpr c8
   have c8b1 : (t116 != 0) = true := bne_iff_ne.mpr c8
   (first | rw [c8b0] | (simp only [i64_w, i32_w]; rw [c8b0]) | skip)
   have H' := Am H
   clear H
   go_wp2
   go_meet
   case rel => exact ⟨_, (false), rq, H', ⟨by first | omega | exact Nat.le_refl _⟩, ⟨kB BK113⟩, ⟨kB BK114⟩, ⟨bs⟩⟩
 case rest =>
  clear HC3
  try clear c2
  try clear p2
  try clear c4
  try clear c6
  try clear c8
  try clear c8b0
  try clear c8b1
  try clear c9
  try clear hcz10_0
  try clear hcz10_1
  try clear hcz10_2
  try clear hcz10_3
  try clear hcz7_0
  try clear hcz7_1
  try clear hcz7_2
  try clear hcz7_3
  try clear hfz10_0
  try clear hfz10_1
  try clear hfz10_2
  try clear hfz10_3
  try clear hfz7_0
  try clear hfz7_1
  try clear hfz7_2
  try clear hfz7_3
  obtain ⟨kq, x14_2, rfl, HA, HJ2, BK113, BK114, HB⟩ := hcut
  cases kq with
  | zero => exact absurd HA.out (by simp [rules_table.j0])
  | succ kj2 =>
   have H := HA.out
   clear HA
   simp only [rules_table.j0] at H
   by_cases c11 : x14_2 = true
   ·
    subst c11
    have H1 : ((rules_table_1.f 1 0 2).bind fun bt117 => (some (bt117.1, bt117.2.1, bt117.2.2.1, bt117.2.2.2))) = some (r1, r2, r3, r4) := by rw [if_pos rfl] at H; exact H
    clear H
    have H := H1
    clear H1
    obtain ⟨⟨t117, t118, t119, t120⟩, A120, H⟩ := Option.bind_eq_some_iff.mp H
    replace H : (some (t117, t118, t119, t120)) = some (r1, r2, r3, r4) := H
    have A12 := Am A120
    clear A120
    simp only [Option.some.injEq, Prod.mk.injEq] at H
    obtain ⟨rfl, rfl, rfl, rfl⟩ := H
    go_wp2_with (first | (go_at_call 43; (with_reducible refine (rules_table_1.calls 1 0 2 t117 t118 t119 t120 _ A12.out).mono ?_); rintro e w13 ⟨rfl, hb⟩; have n0_ := Am (blk_below (kB BK113) hb); have n1_ := Am (blk_below (kB BK114) hb); have n2_ := Am (below_step (bs) hb); clear BK113; clear BK114; clear HB; have BK113 := n0_; have BK114 := n1_; have HB := n2_; clear n0_ n1_ n2_; (try clear hb); (try clear hb2); (try clear hk); (try clear hi); have hnb14 := NB114_113.out; have hnc14 := NB113_114.out; have hcz15_0 := cz0 BK114.out; have hcz15_1 := cz1 BK114.out; have hcz15_2 := cz2 BK114.out; have hcz15_3 := cz3 BK114.out; have hfz15_0 := fz BK114 0; have hfz15_1 := fz BK114 1; have hfz15_2 := fz BK114 2; have hfz15_3 := fz BK114 3))
    refine bodyPost_ret (results_cell_row rfl _ _ gb114 30 #[.int .i64 t117, .int .i64 t118, .int .i64 t119, .int .i64 t120] (0, 0) _ rfl (by (with_reducible repeat (first | refine blk_drewN ?_ _ | refine blk_drew ?_ | refine blk_alloc ?_ _)); refine blk_put (cs := #[.int .i64 t117, .int .i64 t118, .int .i64 t119, .int .i64 0]) ?_ 3 _ rfl; (with_reducible repeat (first | refine blk_drewN ?_ _ | refine blk_drew ?_ | refine blk_alloc ?_ _)); refine blk_put (cs := #[.int .i64 t117, .int .i64 t118, .int .i64 0, .int .i64 0]) ?_ 2 _ rfl; (with_reducible repeat (first | refine blk_drewN ?_ _ | refine blk_drew ?_ | refine blk_alloc ?_ _)); refine blk_put (cs := #[.int .i64 t117, .int .i64 0, .int .i64 0, .int .i64 0]) ?_ 1 _ rfl; (with_reducible repeat (first | refine blk_drewN ?_ _ | refine blk_drew ?_ | refine blk_alloc ?_ _)); refine blk_put (cs := #[.int .i64 0, .int .i64 0, .int .i64 0, .int .i64 0]) ?_ 0 _ rfl; (with_reducible repeat (first | refine blk_drewN ?_ _ | refine blk_drew ?_ | refine blk_alloc ?_ _)); exact BK114.out) Try.underlying30 rfl (by kernel_rfl)) rfl ?_
    exact ⟨xq, bs⟩
   ·
    replace c11 := Bool.eq_false_iff.mpr c11
    subst c11
    have H1 : (if t116 = 0 then ((rules_names.f kj2 l0_1 6).bind fun bt125 => (if bt125.2 = 0 then (if (l0_2.length : Int) = (l0_1.length : Int) then (rules_table.l0 kj2 l0_2 (l0_2.length : Int) 0 l0_0 l0_1 l0_2 l0_3) else ((rules_table_1.f 3 0 2).bind fun bt131 => (some (bt131.1, bt131.2.1, bt131.2.2.1, bt131.2.2.2)))) else ((rules_table_1.f 2 bt125.1 bt125.2).bind fun bt127 => (some (bt127.1, bt127.2.1, bt127.2.2.1, bt127.2.2.2))))) else ((rules_table_1.f 1 t115 t116).bind fun bt121 => (some (bt121.1, bt121.2.1, bt121.2.2.1, bt121.2.2.2)))) = some (r1, r2, r3, r4) := by rw [if_neg (show ¬ (false = true) by decide)] at H; exact H
    clear H
    have H := H1
    clear H1
    by_cases c16 : t116 = 0
    ·
     rw [if_pos c16] at H
     have c16b0 : (t116 == 0) = true := beq_iff_eq.mpr c16
     have c16b1 : (t116 != 0) = false := bne_eq_false_iff_eq.mpr c16
     clear c16
     obtain ⟨⟨t125, t126⟩, A170, H⟩ := Option.bind_eq_some_iff.mp H
     try dsimp only at H
     have A17 := Am A170
     clear A170
     by_cases c18 : t126 = 0
     ·
      rw [if_pos c18] at H
      have c18b0 : (t126 == 0) = true := beq_iff_eq.mpr c18
      have c18b1 : (t126 != 0) = false := bne_eq_false_iff_eq.mpr c18
      clear c18
      by_cases c19 : (l0_2.length : Int) = (l0_1.length : Int)
      ·
       rw [if_pos c19] at H
       have c19b0 : ((l0_2.length : Int) == (l0_1.length : Int)) = true := beq_iff_eq.mpr c19
       have c19b1 : ((l0_2.length : Int) != (l0_1.length : Int)) = false := bne_eq_false_iff_eq.mpr c19
       have c19b2 : (l0_2.length == l0_1.length) = true := by first | simpa using c19 | (simp at c19 ⊢; omega)
       clear c19
       have H' := Am H
       clear H
       have hnb20 := NB113_114.out
       have hnc20 := NB114_113.out
       have hcz21_0 := cz0 BK113.out
       have hcz21_1 := cz1 BK113.out
       have hcz21_2 := cz2 BK113.out
       have hcz21_3 := cz3 BK113.out
       have hfz21_0 := fz BK113 0
       have hfz21_1 := fz BK113 1
       have hfz21_2 := fz BK113 2
       have hfz21_3 := fz BK113 3
       go_wp2_with (first | ((with_reducible refine gate_callee (f := 44) rfl ?_); refine goesL_ (some 35) rfl rfl Try.func44 (by kernel_rfl) rfl #[.slice A0_1 l0_1.length c0_1, .int .i64 6] rfl aq ?_; (with_reducible refine (rules_names.calls kj2 _ _ l0_1 6 t125 t126 _ ?side1 ?side2 A17.out).mono ?_); (case side1 => exact kC HR0_1); (case side2 => exact HC0_1.out); rintro e w' ⟨rfl, ⟨nd, rfl⟩⟩; refine ⟨_, rfl, ?_⟩))
       go_loopg [56] kj2 (fun kq v56 w' => ∃ (x56_2 : Int) (x115000_2 : Int) (x115001_2 : Int) (x115002_2 : Int) (x115003_2 : Int), v56 = .int .i64 x56_2 ∧ Aside0 (rules_table.l0 kq l0_2 (l0_2.length : Int) x56_2 l0_0 l0_1 l0_2 l0_3 = some (r1, r2, r3, r4)) ∧ Aside0 (kq ≤ kj2) ∧ Aside0 (w'.heap[gb113]? = some (.cells #[(.slice A0_0 l0_0.length c0_0), (.slice A0_1 l0_1.length c0_1), (.slice A0_2 l0_2.length c0_2), (.slice A0_3 l0_3.length c0_3)] 26 (0, 0))) ∧ Aside0 (w'.heap[gb114]? = some (.cells #[.int .i64 x115000_2, .int .i64 x115001_2, .int .i64 x115002_2, .int .i64 x115003_2] 30 (0, 0))) ∧ Aside0 (Below w.heap.size w w'))
       case atStart => exact ⟨(0), (0), (0), (0), (0), rq, H', ⟨Nat.le_refl _⟩, ⟨kB BK113⟩, ⟨kB BK114⟩, ⟨bs⟩⟩
       case round =>
        clear H'
        try clear c1
        try clear c2
        try clear p2
        try clear c4
        try clear c6
        try clear c8
        try clear c8b0
        try clear c8b1
        try clear c9
        try clear c11
        try clear c14
        try clear c16
        try clear c16b0
        try clear c16b1
        try clear c18
        try clear c18b0
        try clear c18b1
        try clear c19
        try clear c19b0
        try clear c19b1
        try clear c19b2
        try clear c20
        try clear hcz10_0
        try clear hcz10_1
        try clear hcz10_2
        try clear hcz10_3
        try clear hcz15_0
        try clear hcz15_1
        try clear hcz15_2
        try clear hcz15_3
        try clear hcz21_0
        try clear hcz21_1
        try clear hcz21_2
        try clear hcz21_3
        try clear hcz7_0
        try clear hcz7_1
        try clear hcz7_2
        try clear hcz7_3
        try clear hfz10_0
        try clear hfz10_1
        try clear hfz10_2
        try clear hfz10_3
        try clear hfz15_0
        try clear hfz15_1
        try clear hfz15_2
        try clear hfz15_3
        try clear hfz21_0
        try clear hfz21_1
        try clear hfz21_2
        try clear hfz21_3
        try clear hfz7_0
        try clear hfz7_1
        try clear hfz7_2
        try clear hfz7_3
        try clear p2
        obtain ⟨x56_2, x115000_2, x115001_2, x115002_2, x115003_2, rfl, HA, HK2, BK113, BK114, HB⟩ := hrel
        cases gk with
        | zero => exact absurd HA.out (by simp [rules_table.l0])
        | succ k2 =>
         have H := HA.out
         clear HA
         simp only [rules_table.l0] at H
         by_cases c22 : x56_2 < (l0_2.length : Int)
         ·
          rw [if_pos c22] at H
          have c22b0 : decide (x56_2 < (l0_2.length : Int)) = true := decide_eq_true c22
          clear c22
          by_cases c23 : 0 ≤ x56_2
          ·
           rw [if_pos c23] at H
           have c23b0 : decide (0 ≤ x56_2) = true := decide_eq_true c23
           clear c23
           by_cases c24 : x56_2 < (l0_2.length : Int)
           ·
            rw [if_pos c24] at H
            have c24b0 : decide (x56_2 < (l0_2.length : Int)) = true := decide_eq_true c24
            clear c24
            obtain ⟨t140, A250, H⟩ := Option.bind_eq_some_iff.mp H
            replace H : (if t140 = true then (rules_table.l0 k2 l0_2 (l0_2.length : Int) (wrap64 (x56_2 + 1)) l0_0 l0_1 l0_2 l0_3) else ((rules_table_1.f 3 x56_2 3).bind fun bt141 => (some (bt141.1, bt141.2.1, bt141.2.2.1, bt141.2.2.2)))) = some (r1, r2, r3, r4) := H
            have A25 := Am A250
            clear A250
            by_cases c26 : t140 = true
            ·
             subst c26
             have H1 : (rules_table.l0 k2 l0_2 (l0_2.length : Int) (wrap64 (x56_2 + 1)) l0_0 l0_1 l0_2 l0_3) = some (r1, r2, r3, r4) := by rw [if_pos rfl] at H; exact H
             clear H
             have H := H1
             clear H1
             have H' := Am H
             clear H
             have p139 : 0 ≤ (x56_2 : Int) := of_decide_eq_true az
             have q139 : x56_2 < (l0_2.length : Int) := of_decide_eq_true az
             obtain ⟨ad139, e139, hx139_0⟩ := Kd.at_int HR0_2.out x56_2 p139 q139
             cases e139
             replace hx139_0 := hX HB hx139_0
             replace p139 := eq_true p139
             replace q139 := eq_true q139
             go_wp2_with (first | ((with_reducible refine gate_callee (f := 45) rfl ?_); refine goesL_ (some 62) rfl rfl Try.func45 (by kernel_rfl) rfl #[.int .i64 (rd l0_2 x56_2)] rfl aq ?_; (with_reducible refine (rules_value.calls (rd l0_2 x56_2) true _ A25.out).mono ?_); rintro e w' ⟨rfl, ⟨nd, rfl⟩⟩; refine ⟨_, rfl, ?_⟩))
             go_roundg k2
             case measure => have := HJ2.out; have := HK2.out; omega
             case rel => exact ⟨(wrap64 (x56_2 + 1)), (x115000_2), (x115001_2), (x115002_2), (x115003_2), rq, H', ⟨by have := HJ2.out; have := HK2.out; omega⟩, ⟨kB BK113⟩, ⟨kB BK114⟩, ⟨bs⟩⟩
            ·
             replace c26 := Bool.eq_false_iff.mpr c26
             subst c26
             have H1 : ((rules_table_1.f 3 x56_2 3).bind fun bt141 => (some (bt141.1, bt141.2.1, bt141.2.2.1, bt141.2.2.2))) = some (r1, r2, r3, r4) := by rw [if_neg (show ¬ (false = true) by decide)] at H; exact H
             clear H
             have H := H1
             clear H1
             obtain ⟨⟨t141, t142, t143, t144⟩, A270, H⟩ := Option.bind_eq_some_iff.mp H
             replace H : (some (t141, t142, t143, t144)) = some (r1, r2, r3, r4) := H
             have A27 := Am A270
             clear A270
             simp only [Option.some.injEq, Prod.mk.injEq] at H
             obtain ⟨rfl, rfl, rfl, rfl⟩ := H
             have p139 : 0 ≤ (x56_2 : Int) := of_decide_eq_true az
             have q139 : x56_2 < (l0_2.length : Int) := of_decide_eq_true az
             obtain ⟨ad139, e139, hx139_0⟩ := Kd.at_int HR0_2.out x56_2 p139 q139
             cases e139
             replace hx139_0 := hX HB hx139_0
             replace p139 := eq_true p139
             replace q139 := eq_true q139
             go_wp2_with (first | ((with_reducible refine gate_callee (f := 45) rfl ?_); refine goesL_ (some 62) rfl rfl Try.func45 (by kernel_rfl) rfl #[.int .i64 (rd l0_2 x56_2)] rfl aq ?_; (with_reducible refine (rules_value.calls (rd l0_2 x56_2) false _ A25.out).mono ?_); rintro e w' ⟨rfl, ⟨nd, rfl⟩⟩; refine ⟨_, rfl, ?_⟩; (try (rw [drewN_self wr]; generalize hq_ : World.drewN wr _ = wr; have n0_ : Aside0 (wr.heap[gb113]? = some (.cells #[.slice A0_0 l0_0.length c0_0, .slice A0_1 l0_1.length c0_1, .slice (some ad139) l0_2.length c0_2, .slice A0_3 l0_3.length c0_3] 26 (0, 0))) := ⟨by rw [← hq_]; exact (kB BK113)⟩; have n1_ : Aside0 (wr.heap[gb114]? = some (.cells #[.int .i64 x115000_2, .int .i64 x115001_2, .int .i64 x115002_2, .int .i64 x115003_2] 30 (0, 0))) := ⟨by rw [← hq_]; exact (kB BK114)⟩; have n2_ : Aside0 (Below w.heap.size w wr) := ⟨by rw [← hq_]; exact (bs)⟩; clear BK113 BK114 HB hq_; have BK113 := n0_; have BK114 := n1_; have HB := n2_; clear n0_ n1_ n2_))) | (go_at_call 43; (with_reducible refine (rules_table_1.calls 3 x56_2 3 t141 t142 t143 t144 _ A27.out).mono ?_); rintro e w28 ⟨rfl, hb⟩; have n0_ := Am (blk_below (kB BK113) hb); have n1_ := Am (blk_below (kB BK114) hb); have n2_ := Am (below_step (bs) hb); clear BK113; clear BK114; clear HB; have BK113 := n0_; have BK114 := n1_; have HB := n2_; clear n0_ n1_ n2_; (try clear hb); (try clear hb2); (try clear hk); (try clear hi); have hnb29 := NB114_113.out; have hnc29 := NB113_114.out; have hcz30_0 := cz0 BK114.out; have hcz30_1 := cz1 BK114.out; have hcz30_2 := cz2 BK114.out; have hcz30_3 := cz3 BK114.out; have hfz30_0 := fz BK114 0; have hfz30_1 := fz BK114 1; have hfz30_2 := fz BK114 2; have hfz30_3 := fz BK114 3))
             refine bodyPost_ret (results_cell_row rfl _ _ gb114 30 #[.int .i64 t141, .int .i64 t142, .int .i64 t143, .int .i64 t144] (0, 0) _ rfl (by (with_reducible repeat (first | refine blk_drewN ?_ _ | refine blk_drew ?_ | refine blk_alloc ?_ _)); refine blk_put (cs := #[.int .i64 t141, .int .i64 t142, .int .i64 t143, .int .i64 x115003_2]) ?_ 3 _ rfl; (with_reducible repeat (first | refine blk_drewN ?_ _ | refine blk_drew ?_ | refine blk_alloc ?_ _)); refine blk_put (cs := #[.int .i64 t141, .int .i64 t142, .int .i64 x115002_2, .int .i64 x115003_2]) ?_ 2 _ rfl; (with_reducible repeat (first | refine blk_drewN ?_ _ | refine blk_drew ?_ | refine blk_alloc ?_ _)); refine blk_put (cs := #[.int .i64 t141, .int .i64 x115001_2, .int .i64 x115002_2, .int .i64 x115003_2]) ?_ 1 _ rfl; (with_reducible repeat (first | refine blk_drewN ?_ _ | refine blk_drew ?_ | refine blk_alloc ?_ _)); refine blk_put (cs := #[.int .i64 x115000_2, .int .i64 x115001_2, .int .i64 x115002_2, .int .i64 x115003_2]) ?_ 0 _ rfl; (with_reducible repeat (first | refine blk_drewN ?_ _ | refine blk_drew ?_ | refine blk_alloc ?_ _)); exact BK114.out) Try.underlying30 rfl (by kernel_rfl)) rfl ?_
             exact ⟨xq, bs⟩
           ·
            rw [if_neg c24] at H
            exact absurd H (by simp)
          ·
           rw [if_neg c23] at H
           exact absurd H (by simp)
         ·
          rw [if_neg c22] at H
          have c22b0 : decide (x56_2 < (l0_2.length : Int)) = false := decide_eq_false c22
          clear c22
          by_cases c31 : (l0_3.length : Int) > 12
          ·
           rw [if_pos c31] at H
           have c31b0 : decide (12 < (l0_3.length : Int)) = true := decide_eq_true c31
           have c31b1 : decide (12 < l0_3.length) = true := decide_eq_true (by omega)
           clear c31
           obtain ⟨⟨t135, t136, t137, t138⟩, A320, H⟩ := Option.bind_eq_some_iff.mp H
           replace H : (some (t135, t136, t137, t138)) = some (r1, r2, r3, r4) := H
           have A32 := Am A320
           clear A320
           simp only [Option.some.injEq, Prod.mk.injEq] at H
           obtain ⟨rfl, rfl, rfl, rfl⟩ := H
           have hnb33 := NB113_114.out
           have hnc33 := NB114_113.out
           have hcz34_0 := cz0 BK113.out
           have hcz34_1 := cz1 BK113.out
           have hcz34_2 := cz2 BK113.out
           have hcz34_3 := cz3 BK113.out
           have hfz34_0 := fz BK113 0
           have hfz34_1 := fz BK113 1
           have hfz34_2 := fz BK113 2
           have hfz34_3 := fz BK113 3
           go_wp2_with (first | (go_at_call 43; (with_reducible refine (rules_table_1.calls 4 0 4 t135 t136 t137 t138 _ A32.out).mono ?_); rintro e w35 ⟨rfl, hb⟩; have n0_ := Am (blk_below (kB BK113) hb); have n1_ := Am (blk_below (kB BK114) hb); have n2_ := Am (below_step (bs) hb); clear BK113; clear BK114; clear HB; have BK113 := n0_; have BK114 := n1_; have HB := n2_; clear n0_ n1_ n2_; (try clear hb); (try clear hb2); (try clear hk); (try clear hi); have hcz36_0 := cz0 BK114.out; have hcz36_1 := cz1 BK114.out; have hcz36_2 := cz2 BK114.out; have hcz36_3 := cz3 BK114.out; have hfz36_0 := fz BK114 0; have hfz36_1 := fz BK114 1; have hfz36_2 := fz BK114 2; have hfz36_3 := fz BK114 3))
           refine bodyPost_ret (results_cell_row rfl _ _ gb114 30 #[.int .i64 t135, .int .i64 t136, .int .i64 t137, .int .i64 t138] (0, 0) _ rfl (by (with_reducible repeat (first | refine blk_drewN ?_ _ | refine blk_drew ?_ | refine blk_alloc ?_ _)); refine blk_put (cs := #[.int .i64 t135, .int .i64 t136, .int .i64 t137, .int .i64 x115003_2]) ?_ 3 _ rfl; (with_reducible repeat (first | refine blk_drewN ?_ _ | refine blk_drew ?_ | refine blk_alloc ?_ _)); refine blk_put (cs := #[.int .i64 t135, .int .i64 t136, .int .i64 x115002_2, .int .i64 x115003_2]) ?_ 2 _ rfl; (with_reducible repeat (first | refine blk_drewN ?_ _ | refine blk_drew ?_ | refine blk_alloc ?_ _)); refine blk_put (cs := #[.int .i64 t135, .int .i64 x115001_2, .int .i64 x115002_2, .int .i64 x115003_2]) ?_ 1 _ rfl; (with_reducible repeat (first | refine blk_drewN ?_ _ | refine blk_drew ?_ | refine blk_alloc ?_ _)); refine blk_put (cs := #[.int .i64 x115000_2, .int .i64 x115001_2, .int .i64 x115002_2, .int .i64 x115003_2]) ?_ 0 _ rfl; (with_reducible repeat (first | refine blk_drewN ?_ _ | refine blk_drew ?_ | refine blk_alloc ?_ _)); exact BK114.out) Try.underlying30 rfl (by kernel_rfl)) rfl ?_
           exact ⟨xq, bs⟩
          ·
           rw [if_neg c31] at H
           have c31b0 : decide (12 < (l0_3.length : Int)) = false := decide_eq_false c31
           have c31b1 : decide (12 < l0_3.length) = false := decide_eq_false (by omega)
           clear c31
           simp only [Option.some.injEq, Prod.mk.injEq] at H
           obtain ⟨rfl, rfl, rfl, rfl⟩ := H
           have hnb37 := NB113_114.out
           have hnc37 := NB114_113.out
           have hcz38_0 := cz0 BK113.out
           have hcz38_1 := cz1 BK113.out
           have hcz38_2 := cz2 BK113.out
           have hcz38_3 := cz3 BK113.out
           have hfz38_0 := fz BK113 0
           have hfz38_1 := fz BK113 1
           have hfz38_2 := fz BK113 2
           have hfz38_3 := fz BK113 3
           have hcz39_0 := cz0 BK114.out
           have hcz39_1 := cz1 BK114.out
           have hcz39_2 := cz2 BK114.out
           have hcz39_3 := cz3 BK114.out
           have hfz39_0 := fz BK114 0
           have hfz39_1 := fz BK114 1
           have hfz39_2 := fz BK114 2
           have hfz39_3 := fz BK114 3
           go_wp2
           refine bodyPost_ret (results_cell_row rfl _ _ gb114 30 #[.int .i64 0, .int .i64 0, .int .i64 0, .int .i64 0] (0, 0) _ rfl (by (with_reducible repeat (first | refine blk_drewN ?_ _ | refine blk_drew ?_ | refine blk_alloc ?_ _)); refine blk_put (cs := #[.int .i64 0, .int .i64 0, .int .i64 0, .int .i64 x115003_2]) ?_ 3 _ rfl; (with_reducible repeat (first | refine blk_drewN ?_ _ | refine blk_drew ?_ | refine blk_alloc ?_ _)); refine blk_put (cs := #[.int .i64 0, .int .i64 0, .int .i64 x115002_2, .int .i64 x115003_2]) ?_ 2 _ rfl; (with_reducible repeat (first | refine blk_drewN ?_ _ | refine blk_drew ?_ | refine blk_alloc ?_ _)); refine blk_put (cs := #[.int .i64 0, .int .i64 x115001_2, .int .i64 x115002_2, .int .i64 x115003_2]) ?_ 1 _ rfl; (with_reducible repeat (first | refine blk_drewN ?_ _ | refine blk_drew ?_ | refine blk_alloc ?_ _)); refine blk_put (cs := #[.int .i64 x115000_2, .int .i64 x115001_2, .int .i64 x115002_2, .int .i64 x115003_2]) ?_ 0 _ rfl; (with_reducible repeat (first | refine blk_drewN ?_ _ | refine blk_drew ?_ | refine blk_alloc ?_ _)); exact BK114.out) Try.underlying30 rfl (by kernel_rfl)) rfl ?_
           exact ⟨xq, bs⟩
      ·
       rw [if_neg c19] at H
       have c19b0 : ((l0_2.length : Int) == (l0_1.length : Int)) = false := beq_eq_false_iff_ne.mpr c19
       have c19b1 : ((l0_2.length : Int) != (l0_1.length : Int)) = true := bne_iff_ne.mpr c19
       have c19b2 : (l0_2.length == l0_1.length) = false := by first | simpa using c19 | (simp at c19 ⊢; omega)
       obtain ⟨⟨t131, t132, t133, t134⟩, A400, H⟩ := Option.bind_eq_some_iff.mp H
       replace H : (some (t131, t132, t133, t134)) = some (r1, r2, r3, r4) := H
       have A40 := Am A400
       clear A400
       simp only [Option.some.injEq, Prod.mk.injEq] at H
       obtain ⟨rfl, rfl, rfl, rfl⟩ := H
       have hnb41 := NB113_114.out
       have hnc41 := NB114_113.out
       have hcz42_0 := cz0 BK113.out
       have hcz42_1 := cz1 BK113.out
       have hcz42_2 := cz2 BK113.out
       have hcz42_3 := cz3 BK113.out
       have hfz42_0 := fz BK113 0
       have hfz42_1 := fz BK113 1
       have hfz42_2 := fz BK113 2
       have hfz42_3 := fz BK113 3
       go_wp2_with (first | ((with_reducible refine gate_callee (f := 44) rfl ?_); refine goesL_ (some 35) rfl rfl Try.func44 (by kernel_rfl) rfl #[.slice A0_1 l0_1.length c0_1, .int .i64 6] rfl aq ?_; (with_reducible refine (rules_names.calls kj2 _ _ l0_1 6 t125 t126 _ ?side1 ?side2 A17.out).mono ?_); (case side1 => exact kC HR0_1); (case side2 => exact HC0_1.out); rintro e w' ⟨rfl, ⟨nd, rfl⟩⟩; refine ⟨_, rfl, ?_⟩; (try (rw [drewN_self wc]; generalize hq_ : World.drewN wc _ = wc; have n0_ : Aside0 (wc.heap[gb113]? = some (.cells #[.slice A0_0 l0_0.length c0_0, .slice A0_1 l0_1.length c0_1, .slice A0_2 l0_2.length c0_2, .slice A0_3 l0_3.length c0_3] 26 (0, 0))) := ⟨by rw [← hq_]; exact (kB BK113)⟩; have n1_ : Aside0 (wc.heap[gb114]? = some (.cells #[.int .i64 0, .int .i64 0, .int .i64 0, .int .i64 0] 30 (0, 0))) := ⟨by rw [← hq_]; exact (kB BK114)⟩; have n2_ : Aside0 (Below w.heap.size w wc) := ⟨by rw [← hq_]; exact (bs)⟩; clear BK113 BK114 HB hq_; have BK113 := n0_; have BK114 := n1_; have HB := n2_; clear n0_ n1_ n2_; (try have hcz42_0 := cz0 BK113.out); (try have hfz42_0 := fz BK113 0); (try have hcz42_1 := cz1 BK113.out); (try have hfz42_1 := fz BK113 1); (try have hcz42_2 := cz2 BK113.out); (try have hfz42_2 := fz BK113 2); (try have hcz42_3 := cz3 BK113.out); (try have hfz42_3 := fz BK113 3)))) | (go_at_call 43; (with_reducible refine (rules_table_1.calls 3 0 2 t131 t132 t133 t134 _ A40.out).mono ?_); rintro e w43 ⟨rfl, hb⟩; have n0_ := Am (blk_below (kB BK113) hb); have n1_ := Am (blk_below (kB BK114) hb); have n2_ := Am (below_step (bs) hb); clear BK113; clear BK114; clear HB; have BK113 := n0_; have BK114 := n1_; have HB := n2_; clear n0_ n1_ n2_; (try clear hb); (try clear hb2); (try clear hk); (try clear hi); have hcz44_0 := cz0 BK114.out; have hcz44_1 := cz1 BK114.out; have hcz44_2 := cz2 BK114.out; have hcz44_3 := cz3 BK114.out; have hfz44_0 := fz BK114 0; have hfz44_1 := fz BK114 1; have hfz44_2 := fz BK114 2; have hfz44_3 := fz BK114 3))
       refine bodyPost_ret (results_cell_row rfl _ _ gb114 30 #[.int .i64 t131, .int .i64 t132, .int .i64 t133, .int .i64 t134] (0, 0) _ rfl (by (with_reducible repeat (first | refine blk_drewN ?_ _ | refine blk_drew ?_ | refine blk_alloc ?_ _)); refine blk_put (cs := #[.int .i64 t131, .int .i64 t132, .int .i64 t133, .int .i64 0]) ?_ 3 _ rfl; (with_reducible repeat (first | refine blk_drewN ?_ _ | refine blk_drew ?_ | refine blk_alloc ?_ _)); refine blk_put (cs := #[.int .i64 t131, .int .i64 t132, .int .i64 0, .int .i64 0]) ?_ 2 _ rfl; (with_reducible repeat (first | refine blk_drewN ?_ _ | refine blk_drew ?_ | refine blk_alloc ?_ _)); refine blk_put (cs := #[.int .i64 t131, .int .i64 0, .int .i64 0, .int .i64 0]) ?_ 1 _ rfl; (with_reducible repeat (first | refine blk_drewN ?_ _ | refine blk_drew ?_ | refine blk_alloc ?_ _)); refine blk_put (cs := #[.int .i64 0, .int .i64 0, .int .i64 0, .int .i64 0]) ?_ 0 _ rfl; (with_reducible repeat (first | refine blk_drewN ?_ _ | refine blk_drew ?_ | refine blk_alloc ?_ _)); exact BK114.out) Try.underlying30 rfl (by kernel_rfl)) rfl ?_
       exact ⟨xq, bs⟩
     ·
      rw [if_neg c18] at H
      have c18b0 : (t126 == 0) = false := beq_eq_false_iff_ne.mpr c18
      have c18b1 : (t126 != 0) = true := bne_iff_ne.mpr c18
      obtain ⟨⟨t127, t128, t129, t130⟩, A450, H⟩ := Option.bind_eq_some_iff.mp H
      replace H : (some (t127, t128, t129, t130)) = some (r1, r2, r3, r4) := H
      have A45 := Am A450
      clear A450
      simp only [Option.some.injEq, Prod.mk.injEq] at H
      obtain ⟨rfl, rfl, rfl, rfl⟩ := H
      have hnb46 := NB113_114.out
      have hnc46 := NB114_113.out
      have hcz47_0 := cz0 BK113.out
      have hcz47_1 := cz1 BK113.out
      have hcz47_2 := cz2 BK113.out
      have hcz47_3 := cz3 BK113.out
      have hfz47_0 := fz BK113 0
      have hfz47_1 := fz BK113 1
      have hfz47_2 := fz BK113 2
      have hfz47_3 := fz BK113 3
      go_wp2_with (first | ((with_reducible refine gate_callee (f := 44) rfl ?_); refine goesL_ (some 35) rfl rfl Try.func44 (by kernel_rfl) rfl #[.slice A0_1 l0_1.length c0_1, .int .i64 6] rfl aq ?_; (with_reducible refine (rules_names.calls kj2 _ _ l0_1 6 t125 t126 _ ?side1 ?side2 A17.out).mono ?_); (case side1 => exact kC HR0_1); (case side2 => exact HC0_1.out); rintro e w' ⟨rfl, ⟨nd, rfl⟩⟩; refine ⟨_, rfl, ?_⟩; (try (rw [drewN_self wc]; generalize hq_ : World.drewN wc _ = wc; have n0_ : Aside0 (wc.heap[gb113]? = some (.cells #[.slice A0_0 l0_0.length c0_0, .slice A0_1 l0_1.length c0_1, .slice A0_2 l0_2.length c0_2, .slice A0_3 l0_3.length c0_3] 26 (0, 0))) := ⟨by rw [← hq_]; exact (kB BK113)⟩; have n1_ : Aside0 (wc.heap[gb114]? = some (.cells #[.int .i64 0, .int .i64 0, .int .i64 0, .int .i64 0] 30 (0, 0))) := ⟨by rw [← hq_]; exact (kB BK114)⟩; have n2_ : Aside0 (Below w.heap.size w wc) := ⟨by rw [← hq_]; exact (bs)⟩; clear BK113 BK114 HB hq_; have BK113 := n0_; have BK114 := n1_; have HB := n2_; clear n0_ n1_ n2_; (try have hcz47_0 := cz0 BK113.out); (try have hfz47_0 := fz BK113 0); (try have hcz47_1 := cz1 BK113.out); (try have hfz47_1 := fz BK113 1); (try have hcz47_2 := cz2 BK113.out); (try have hfz47_2 := fz BK113 2); (try have hcz47_3 := cz3 BK113.out); (try have hfz47_3 := fz BK113 3)))) | (go_at_call 43; (with_reducible refine (rules_table_1.calls 2 t125 t126 t127 t128 t129 t130 _ A45.out).mono ?_); rintro e w48 ⟨rfl, hb⟩; have n0_ := Am (blk_below (kB BK113) hb); have n1_ := Am (blk_below (kB BK114) hb); have n2_ := Am (below_step (bs) hb); clear BK113; clear BK114; clear HB; have BK113 := n0_; have BK114 := n1_; have HB := n2_; clear n0_ n1_ n2_; (try clear hb); (try clear hb2); (try clear hk); (try clear hi); have hcz49_0 := cz0 BK114.out; have hcz49_1 := cz1 BK114.out; have hcz49_2 := cz2 BK114.out; have hcz49_3 := cz3 BK114.out; have hfz49_0 := fz BK114 0; have hfz49_1 := fz BK114 1; have hfz49_2 := fz BK114 2; have hfz49_3 := fz BK114 3))
      refine bodyPost_ret (results_cell_row rfl _ _ gb114 30 #[.int .i64 t127, .int .i64 t128, .int .i64 t129, .int .i64 t130] (0, 0) _ rfl (by (with_reducible repeat (first | refine blk_drewN ?_ _ | refine blk_drew ?_ | refine blk_alloc ?_ _)); refine blk_put (cs := #[.int .i64 t127, .int .i64 t128, .int .i64 t129, .int .i64 0]) ?_ 3 _ rfl; (with_reducible repeat (first | refine blk_drewN ?_ _ | refine blk_drew ?_ | refine blk_alloc ?_ _)); refine blk_put (cs := #[.int .i64 t127, .int .i64 t128, .int .i64 0, .int .i64 0]) ?_ 2 _ rfl; (with_reducible repeat (first | refine blk_drewN ?_ _ | refine blk_drew ?_ | refine blk_alloc ?_ _)); refine blk_put (cs := #[.int .i64 t127, .int .i64 0, .int .i64 0, .int .i64 0]) ?_ 1 _ rfl; (with_reducible repeat (first | refine blk_drewN ?_ _ | refine blk_drew ?_ | refine blk_alloc ?_ _)); refine blk_put (cs := #[.int .i64 0, .int .i64 0, .int .i64 0, .int .i64 0]) ?_ 0 _ rfl; (with_reducible repeat (first | refine blk_drewN ?_ _ | refine blk_drew ?_ | refine blk_alloc ?_ _)); exact BK114.out) Try.underlying30 rfl (by kernel_rfl)) rfl ?_
      exact ⟨xq, bs⟩
    ·
     rw [if_neg c16] at H
     have c16b0 : (t116 == 0) = false := beq_eq_false_iff_ne.mpr c16
     have c16b1 : (t116 != 0) = true := bne_iff_ne.mpr c16
     obtain ⟨⟨t121, t122, t123, t124⟩, A500, H⟩ := Option.bind_eq_some_iff.mp H
     replace H : (some (t121, t122, t123, t124)) = some (r1, r2, r3, r4) := H
     have A50 := Am A500
     clear A500
     simp only [Option.some.injEq, Prod.mk.injEq] at H
     obtain ⟨rfl, rfl, rfl, rfl⟩ := H
     go_wp2_with (first | (go_at_call 43; (with_reducible refine (rules_table_1.calls 1 t115 t116 t121 t122 t123 t124 _ A50.out).mono ?_); rintro e w51 ⟨rfl, hb⟩; have n0_ := Am (blk_below (kB BK113) hb); have n1_ := Am (blk_below (kB BK114) hb); have n2_ := Am (below_step (bs) hb); clear BK113; clear BK114; clear HB; have BK113 := n0_; have BK114 := n1_; have HB := n2_; clear n0_ n1_ n2_; (try clear hb); (try clear hb2); (try clear hk); (try clear hi); have hnb52 := NB114_113.out; have hnc52 := NB113_114.out; have hcz53_0 := cz0 BK114.out; have hcz53_1 := cz1 BK114.out; have hcz53_2 := cz2 BK114.out; have hcz53_3 := cz3 BK114.out; have hfz53_0 := fz BK114 0; have hfz53_1 := fz BK114 1; have hfz53_2 := fz BK114 2; have hfz53_3 := fz BK114 3))
     refine bodyPost_ret (results_cell_row rfl _ _ gb114 30 #[.int .i64 t121, .int .i64 t122, .int .i64 t123, .int .i64 t124] (0, 0) _ rfl (by (with_reducible repeat (first | refine blk_drewN ?_ _ | refine blk_drew ?_ | refine blk_alloc ?_ _)); refine blk_put (cs := #[.int .i64 t121, .int .i64 t122, .int .i64 t123, .int .i64 0]) ?_ 3 _ rfl; (with_reducible repeat (first | refine blk_drewN ?_ _ | refine blk_drew ?_ | refine blk_alloc ?_ _)); refine blk_put (cs := #[.int .i64 t121, .int .i64 t122, .int .i64 0, .int .i64 0]) ?_ 2 _ rfl; (with_reducible repeat (first | refine blk_drewN ?_ _ | refine blk_drew ?_ | refine blk_alloc ?_ _)); refine blk_put (cs := #[.int .i64 t121, .int .i64 0, .int .i64 0, .int .i64 0]) ?_ 1 _ rfl; (with_reducible repeat (first | refine blk_drewN ?_ _ | refine blk_drew ?_ | refine blk_alloc ?_ _)); refine blk_put (cs := #[.int .i64 0, .int .i64 0, .int .i64 0, .int .i64 0]) ?_ 0 _ rfl; (with_reducible repeat (first | refine blk_drewN ?_ _ | refine blk_drew ?_ | refine blk_alloc ?_ _)); exact BK114.out) Try.underlying30 rfl (by kernel_rfl)) rfl ?_
     exact ⟨xq, bs⟩

/-! ### rules_Find: function 15 -/
def rules_Find.l0 : Nat → ByteArray → List (S38) → Int → Int → Option (Int)
 | 0, _, _, _, _ => none
 | k + 1, x1, x8, x9, x10 => if x10 < x9 then (if 0 ≤ x10 then (if x10 < (x8.length : Int) then (if ((rd_T38 x8 x10).f0).toList = x1.toList then (some x10) else (rules_Find.l0 k x1 x8 x9 (wrap64 (x10 + 1)))) else (none)) else (none)) else (some (-1))
def rules_Find.f (k : Nat) (l0_0 : List ByteArray) (l0_1 : List ByteArray) (l0_2 : List Int) (l0_3 : List (S38)) (a1 : ByteArray) : Option (Int) := rules_Find.l0 k a1 l0_3 (l0_3.length : Int) 0
theorem rules_Find.mono_l : ∀ k, (∀ y0 y1 y2 y3, LeO (rules_Find.l0 k y0 y1 y2 y3) (rules_Find.l0 (k + 1) y0 y1 y2 y3))
 | 0 => fun _ _ _ _ r h => by simp [rules_Find.l0] at h
 | k + 1 => by
  have ih0 := rules_Find.mono_l k
  ·
   intro y0 y1 y2 y3
   unfold rules_Find.l0
   repeat' first
   | (with_reducible exact ih0 _ _ _ _)
   | (with_reducible exact LeO.refl _)
   | (with_reducible exact LeO.none _)
   | (with_reducible refine LeO.ite ?_ ?_)
   | (with_reducible refine LeO.bind ?_ (fun _ => ?_))
   | exact ih0 _ _ _ _
   | exact LeO.none _
   | refine LeO.ite ?_ ?_
   | refine LeO.bind ?_ (fun _ => ?_)
theorem rules_Find.mono : ∀ a0 a1 a2 a3 a4 k, LeO (rules_Find.f k a0 a1 a2 a3 a4) (rules_Find.f (k + 1) a0 a1 a2 a3 a4) := by
 intro a0 a1 a2 a3 a4 k
 have ih0 := rules_Find.mono_l k
 unfold rules_Find.f
 repeat' first
   | (with_reducible exact ih0 _ _ _ _)
   | (with_reducible exact LeO.refl _)
   | (with_reducible exact LeO.none _)
   | (with_reducible refine LeO.ite ?_ ?_)
   | (with_reducible refine LeO.bind ?_ (fun _ => ?_))
   | exact ih0 _ _ _ _
   | exact LeO.none _
   | refine LeO.ite ?_ ?_
   | refine LeO.bind ?_ (fun _ => ?_)
set_option maxHeartbeats 8000000 in
set_option maxRecDepth 100000 in
theorem rules_Find.calls (k : Nat) (A0_0 : Option Addr) (c0_0 : Nat) (l0_0 : List ByteArray) (A0_1 : Option Addr) (c0_1 : Nat) (l0_1 : List ByteArray) (A0_2 : Option Addr) (c0_2 : Nat) (l0_2 : List Int) (A0_3 : Option Addr) (c0_3 : Nat) (l0_3 : List (S38)) (a1 : ByteArray) (r : Int) (w : World) (hr0_0 : Kd.C Kd.string w A0_0 l0_0.length l0_0) (hc0_0 : l0_0.length ≤ c0_0) (hr0_1 : Kd.C Kd.string w A0_1 l0_1.length l0_1) (hc0_1 : l0_1.length ≤ c0_1) (hr0_2 : Kd.C (Kd.int .i64) w A0_2 l0_2.length l0_2) (hc0_2 : l0_2.length ≤ c0_2) (hr0_3 : Kd.C k38 w A0_3 l0_3.length l0_3) (hc0_3 : l0_3.length ≤ c0_3) (h : rules_Find.f k l0_0 l0_1 l0_2 l0_3 a1 = some r) :
  Calls Try.prog 15 #[.agg #[.slice A0_0 l0_0.length c0_0, .slice A0_1 l0_1.length c0_1, .slice A0_2 l0_2.length c0_2, .slice A0_3 l0_3.length c0_3], .string a1] w fun e w' => e = .returned (.int .i64 r) ∧ Below w.heap.size w w' := by
 have hu26 := Try.underlying26
 have hu38 := Try.underlying38
 have HR0_0 := Am hr0_0
 have HC0_0 := Am hc0_0
 clear hr0_0 hc0_0
 have HR0_1 := Am hr0_1
 have HC0_1 := Am hc0_1
 clear hr0_1 hc0_1
 have HR0_2 := Am hr0_2
 have HC0_2 := Am hc0_2
 clear hr0_2 hc0_2
 have HR0_3 := Am hr0_3
 have HC0_3 := Am hc0_3
 clear hr0_3 hc0_3
 have HB := Am (Below.refl w.heap.size w)
 have H : (rules_Find.l0 k a1 l0_3 (l0_3.length : Int) 0) = some r := h
 clear h
 have H' := Am H
 clear H
 go_enter Try.func15, Try.ntmps15
 go_wp2_with (first | ((with_reducible refine gate_dst (N := 2) rfl ?_); refine bxe (N := 2) (cs := #[.slice A0_0 l0_0.length c0_0, .slice A0_1 l0_1.length c0_1, .slice A0_2 l0_2.length c0_2, .slice A0_3 l0_3.length c0_3]) (t := 26) ?_; intro gb145 hg w3 hbox hb; have n0_ := Am (below_step (bl) hb); have n1_ := Am (hbox); have n2_ := Am ((gE hg : w.heap.size ≤ gb145)); have n3_ := Am ((gE hg : w.heap.size ≤ gb145)); clear HB; have HB := n0_; have BK145 := n1_; have GW145 := n2_; have GE145 := n3_; clear n0_ n1_ n2_ n3_; clear hb hbox hg; have hcz4_0 := cz0 BK145.out; have hcz4_1 := cz1 BK145.out; have hcz4_2 := cz2 BK145.out; have hcz4_3 := cz3 BK145.out; have hfz4_0 := fz BK145 0; have hfz4_1 := fz BK145 1; have hfz4_2 := fz BK145 2; have hfz4_3 := fz BK145 3))
 go_loopg [10] k (fun kq v10 w' => ∃ (x10_1 : Int), v10 = .int .i64 x10_1 ∧ Aside0 (rules_Find.l0 kq a1 l0_3 (l0_3.length : Int) x10_1 = some r) ∧ Aside0 (kq ≤ k) ∧ Aside0 (w'.heap[gb145]? = some (.cells #[(.slice A0_0 l0_0.length c0_0), (.slice A0_1 l0_1.length c0_1), (.slice A0_2 l0_2.length c0_2), (.slice A0_3 l0_3.length c0_3)] 26 (0, 0))) ∧ Aside0 (Below w.heap.size w w'))
 case atStart => exact ⟨(0), rq, H', ⟨Nat.le_refl _⟩, ⟨kB BK145⟩, ⟨bs⟩⟩
 case round =>
  clear H'
  try clear c1
  try clear p2
  try clear hcz4_0
  try clear hcz4_1
  try clear hcz4_2
  try clear hcz4_3
  try clear hfz4_0
  try clear hfz4_1
  try clear hfz4_2
  try clear hfz4_3
  obtain ⟨x10_1, rfl, HA, HK1, BK145, HB⟩ := hrel
  cases gk with
  | zero => exact absurd HA.out (by simp [rules_Find.l0])
  | succ k1 =>
   have H := HA.out
   clear HA
   simp only [rules_Find.l0] at H
   by_cases c5 : x10_1 < (l0_3.length : Int)
   ·
    rw [if_pos c5] at H
    have c5b0 : decide (x10_1 < (l0_3.length : Int)) = true := decide_eq_true c5
    clear c5
    by_cases c6 : 0 ≤ x10_1
    ·
     rw [if_pos c6] at H
     have c6b0 : decide (0 ≤ x10_1) = true := decide_eq_true c6
     clear c6
     by_cases c7 : x10_1 < (l0_3.length : Int)
     ·
      rw [if_pos c7] at H
      have c7b0 : decide (x10_1 < (l0_3.length : Int)) = true := decide_eq_true c7
      clear c7
      by_cases c8 : ((rd_T38 l0_3 x10_1).f0).toList = a1.toList
      ·
       rw [if_pos c8] at H
       have c8b0 : (((rd_T38 l0_3 x10_1).f0).toList == a1.toList) = true := beq_iff_eq.mpr c8
       have c8b1 : (((rd_T38 l0_3 x10_1).f0).toList != a1.toList) = false := bne_eq_false_iff_eq.mpr c8
       clear c8
       obtain rfl := Option.some.inj H
       have p146 : 0 ≤ (x10_1 : Int) := of_decide_eq_true az
       have q146 : x10_1 < (l0_3.length : Int) := of_decide_eq_true az
       obtain ⟨ad146, A146_2, c146_2, A146_3, c146_3, A146_4, c146_4, e146, hx146_0, hx146_1, hx146_2, hx146_3, hx146_4, hl146_2, hi146_2, hl146_3, hi146_3, hl146_4, hi146_4⟩ := at_T38 HR0_3.out x10_1 p146 q146
       cases e146
       replace hx146_0 := hX HB hx146_0
       replace hx146_1 := hX HB hx146_1
       replace hx146_2 := hX HB hx146_2
       replace hx146_3 := hX HB hx146_3
       replace hx146_4 := hX HB hx146_4
       have HR146_2 := Am hi146_2
       have HC146_2 := Am hl146_2
       clear hi146_2 hl146_2
       have HR146_3 := Am hi146_3
       have HC146_3 := Am hl146_3
       clear hi146_3 hl146_3
       have HR146_4 := Am hi146_4
       have HC146_4 := Am hl146_4
       clear hi146_4 hl146_4
       replace p146 := eq_true p146
       replace q146 := eq_true q146
       go_wp2_with (first | ((with_reducible refine gate_dst (N := 6) rfl ?_); refine bxe (N := 6) (cs := #[.string (⟨#[]⟩ : ByteArray), .int .i64 0, .slice none 0 0, .slice none 0 0, .slice none 0 0]) (t := 38) ?_; intro gb147 hg w9 hbox hb; have n0_ := Am (blk_below (kB BK145) hb); have n1_ := Am (below_step (bs) hb); have n2_ := Am (hbox); have n3_ := Am ((gE hg : w.heap.size ≤ gb147)); have n4_ := Am ((gE hg : w.heap.size ≤ gb147)); have n5_ := Am (nL hg BK145); have n6_ := Am (nG hg BK145); clear BK145; clear HB; have BK145 := n0_; have HB := n1_; have BK147 := n2_; have GW147 := n3_; have GE147 := n4_; have NB145_147 := n5_; have NB147_145 := n6_; clear n0_ n1_ n2_ n3_ n4_ n5_ n6_; clear hb hbox hg; have hnb10 := NB147_145.out; have hnc10 := NB145_147.out; have hcz11_0 := cz0 BK147.out; have hcz11_1 := cz1 BK147.out; have hcz11_2 := cz2 BK147.out; have hcz11_3 := cz3 BK147.out; have hcz11_4 := cz4 BK147.out; have hfz11_0 := fz BK147 0; have hfz11_1 := fz BK147 1; have hfz11_2 := fz BK147 2; have hfz11_3 := fz BK147 3; have hfz11_4 := fz BK147 4))
       go_ret
       exact ⟨xq, bs⟩
      ·
       rw [if_neg c8] at H
       have c8b0 : (((rd_T38 l0_3 x10_1).f0).toList == a1.toList) = false := beq_eq_false_iff_ne.mpr c8
       have c8b1 : (((rd_T38 l0_3 x10_1).f0).toList != a1.toList) = true := bne_iff_ne.mpr c8
       have H' := Am H
       clear H
       have p146 : 0 ≤ (x10_1 : Int) := of_decide_eq_true az
       have q146 : x10_1 < (l0_3.length : Int) := of_decide_eq_true az
       obtain ⟨ad146, A146_2, c146_2, A146_3, c146_3, A146_4, c146_4, e146, hx146_0, hx146_1, hx146_2, hx146_3, hx146_4, hl146_2, hi146_2, hl146_3, hi146_3, hl146_4, hi146_4⟩ := at_T38 HR0_3.out x10_1 p146 q146
       cases e146
       replace hx146_0 := hX HB hx146_0
       replace hx146_1 := hX HB hx146_1
       replace hx146_2 := hX HB hx146_2
       replace hx146_3 := hX HB hx146_3
       replace hx146_4 := hX HB hx146_4
       have HR146_2 := Am hi146_2
       have HC146_2 := Am hl146_2
       clear hi146_2 hl146_2
       have HR146_3 := Am hi146_3
       have HC146_3 := Am hl146_3
       clear hi146_3 hl146_3
       have HR146_4 := Am hi146_4
       have HC146_4 := Am hl146_4
       clear hi146_4 hl146_4
       replace p146 := eq_true p146
       replace q146 := eq_true q146
       go_wp2_with (first | ((with_reducible refine gate_dst (N := 6) rfl ?_); refine bxe (N := 6) (cs := #[.string (⟨#[]⟩ : ByteArray), .int .i64 0, .slice none 0 0, .slice none 0 0, .slice none 0 0]) (t := 38) ?_; intro gb147 hg w12 hbox hb; have n0_ := Am (blk_below (kB BK145) hb); have n1_ := Am (below_step (bs) hb); have n2_ := Am (hbox); have n3_ := Am ((gE hg : w.heap.size ≤ gb147)); have n4_ := Am ((gE hg : w.heap.size ≤ gb147)); have n5_ := Am (nL hg BK145); have n6_ := Am (nG hg BK145); clear BK145; clear HB; have BK145 := n0_; have HB := n1_; have BK147 := n2_; have GW147 := n3_; have GE147 := n4_; have NB145_147 := n5_; have NB147_145 := n6_; clear n0_ n1_ n2_ n3_ n4_ n5_ n6_; clear hb hbox hg; have hnb13 := NB147_145.out; have hnc13 := NB145_147.out; have hcz14_0 := cz0 BK147.out; have hcz14_1 := cz1 BK147.out; have hcz14_2 := cz2 BK147.out; have hcz14_3 := cz3 BK147.out; have hcz14_4 := cz4 BK147.out; have hfz14_0 := fz BK147 0; have hfz14_1 := fz BK147 1; have hfz14_2 := fz BK147 2; have hfz14_3 := fz BK147 3; have hfz14_4 := fz BK147 4))
       go_roundg k1
       case measure => have := HK1.out; omega
       case rel => exact ⟨(wrap64 (x10_1 + 1)), rq, H', ⟨by have := HK1.out; omega⟩, ⟨kZ BK145⟩, ⟨bs⟩⟩
     ·
      rw [if_neg c7] at H
      exact absurd H (by simp)
    ·
     rw [if_neg c6] at H
     exact absurd H (by simp)
   ·
    rw [if_neg c5] at H
    have c5b0 : decide (x10_1 < (l0_3.length : Int)) = false := decide_eq_false c5
    clear c5
    obtain rfl := Option.some.inj H
    go_wp2
    go_ret
    exact ⟨xq, bs⟩

/-! ### rules_rule_1: function 46, given -/
-- GIVEN info=30
def rules_rule_1.f (a0 : Int) (a1 : Int) (a2 : Int) (a3 : Int) : Option (Int × Int × Int × Int) := some (a2, a3, a0, a1)
set_option maxHeartbeats 8000000 in
set_option maxRecDepth 100000 in
theorem rules_rule_1.calls (a0 : Int) (a1 : Int) (a2 : Int) (a3 : Int) (p : Addr) (r1 : Int) (r2 : Int) (r3 : Int) (r4 : Int) (w : World) (hp : w.cell? p = some (.int .i64 a3)) (hf : w.frozen? p = false) (h : rules_rule_1.f a0 a1 a2 a3 = some (r1, r2, r3, r4)) :
  Calls Try.prog 46 #[.int .i64 a0, .int .i64 a1, .int .i64 a2, .pointer (some p)] w fun e w' => e = .returned (.agg #[.int .i64 r1, .int .i64 r2, .int .i64 r3, .int .i64 r4]) ∧ Below w.heap.size w w' := by
 have hu := Try.underlying30
 have HB := Am (Below.refl w.heap.size w)
 have H : (some (a2, a3, a0, a1)) = some (r1, r2, r3, r4) := h
 clear h
 simp only [Option.some.injEq, Prod.mk.injEq] at H
 obtain ⟨rfl, rfl, rfl, rfl⟩ := H
 go_enter Try.func46, Try.ntmps46
 go_wp2_with (first | ((with_reducible refine gate_dst (N := 7) rfl ?_); refine bxe (N := 7) (cs := #[.int .i64 0, .int .i64 0, .int .i64 0, .int .i64 0]) (t := 30) ?_; intro gb hg w4 hbox hb; have hp4 : w4.cell? p = some (.int .i64 a3) := pw_cell_below (below_step (bl) hb) hp; have hf4 : w4.frozen? p = false := ((below_step (bl) hb).frozen (World.block_lt_of_cell? w _ hp)).trans hf; have n0_ := Am (below_step (bl) hb); have n1_ := Am (hbox); have n2_ := Am ((gE hg : w.heap.size ≤ gb)); clear HB; have HB := n0_; have BK := n1_; have GE := n2_; clear n0_ n1_ n2_; clear hb hbox hg; have hcz5_0 := cz0 BK.out; have hcz5_1 := cz1 BK.out; have hcz5_2 := cz2 BK.out; have hcz5_3 := cz3 BK.out; have hfz5_0 := blk_frozen BK.out 0; have hfz5_1 := blk_frozen BK.out 1; have hfz5_2 := blk_frozen BK.out 2; have hfz5_3 := blk_frozen BK.out 3))
 refine bodyPost_ret (results_cell_row rfl _ _ gb 30 #[.int .i64 a2, .int .i64 a3, .int .i64 a0, .int .i64 a1] (0, 0) _ rfl (by (with_reducible repeat (first | refine blk_drewN ?_ _ | refine blk_drew ?_ | refine blk_alloc ?_ _)); refine blk_put (cs := #[.int .i64 a2, .int .i64 a3, .int .i64 a0, .int .i64 0]) ?_ 3 _ rfl; (with_reducible repeat (first | refine blk_drewN ?_ _ | refine blk_drew ?_ | refine blk_alloc ?_ _)); refine blk_put (cs := #[.int .i64 a2, .int .i64 a3, .int .i64 0, .int .i64 0]) ?_ 2 _ rfl; (with_reducible repeat (first | refine blk_drewN ?_ _ | refine blk_drew ?_ | refine blk_alloc ?_ _)); refine blk_put (cs := #[.int .i64 a2, .int .i64 0, .int .i64 0, .int .i64 0]) ?_ 1 _ rfl; (with_reducible repeat (first | refine blk_drewN ?_ _ | refine blk_drew ?_ | refine blk_alloc ?_ _)); refine blk_put (cs := #[.int .i64 0, .int .i64 0, .int .i64 0, .int .i64 0]) ?_ 0 _ rfl; (with_reducible repeat (first | refine blk_drewN ?_ _ | refine blk_drew ?_ | refine blk_alloc ?_ _)); exact BK.out) Try.underlying30 rfl (by kernel_rfl)) rfl ?_
 exact ⟨xq, bs⟩


end Go.Proofs.Ytdfhbmallnegfaa.PA
