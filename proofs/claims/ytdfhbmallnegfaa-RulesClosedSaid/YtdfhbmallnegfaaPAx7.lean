-- Written by a program (wip/tools/gprint.py: a patched copy of the kit's print) and by hand, for this claim
import Derived.Test.YtdfhbmallnegfaaPAx0
import Derived.Test.YtdfhbmallnegfaaPAx2
import Derived.Test.YtdfhbmallnegfaaPAx3
import Derived.Test.YtdfhbmallnegfaaPAx4
import Derived.Test.YtdfhbmallnegfaaPAx5
import Derived.Test.YtdfhbmallnegfaaPAx6
namespace Go.Proofs.Ytdfhbmallnegfaa.PA
open Go.RowKit Go.Proofs.YtdfhbmallnegfaaW.PrintWords Go.Proofs.YtdfhbmallnegfaaW.PrintLast Go.Proofs.YtdfhbmallnegfaaW.PrintMore
attribute [local go_sem] max2_int min2_int max_two min_two max_three min_three max_four min_four   -- for this text's walks alone
set_option linter.unusedVariables false
set_option linter.unusedSimpArgs false

/-! ### rules_rule: function 29 -/
def rules_rule.j0 : Nat → Bool → List ByteArray → List ByteArray → List Int → List (S38) → Int → ByteArray → Int → List Int → List (S66) → List (S60) → Option (Int × Int × Int × Int)
 | 0, _, _, _, _, _, _, _, _, _, _, _ => none
 | k + 1, x40, x179000, x179001, x179002, x179003, x180000, x183000, x183001, x183002, x183003, x183004 => if x40 = true then ((rules_rule_1.f 6 0 3 x180000).bind fun bt193 => (some (bt193.1, bt193.2.1, bt193.2.2.1, bt193.2.2.2))) else ((rules_from.f k x183002 (x179000.length : Int)).bind fun bt197 => (if bt197.2 = 0 then ((rules_guards.f k x183003 (x179001.length : Int) x183001).bind fun bt203 => (if bt203.2 = 0 then ((rules_steps.f k x183004 x179000 x179001 x179002 x179003 x183001).bind fun bt209 => (if bt209.2 = 0 then (some (0, 0, 0, 0)) else ((rules_rule_1.f 9 bt209.1 bt209.2 x180000).bind fun bt211 => (some (bt211.1, bt211.2.1, bt211.2.2.1, bt211.2.2.2))))) else ((rules_rule_1.f 8 bt203.1 bt203.2 x180000).bind fun bt205 => (some (bt205.1, bt205.2.1, bt205.2.2.1, bt205.2.2.2))))) else ((rules_rule_1.f 7 bt197.1 bt197.2 x180000).bind fun bt199 => (some (bt199.1, bt199.2.1, bt199.2.2.1, bt199.2.2.2)))))
def rules_rule.f (k : Nat) (l0_0 : List ByteArray) (l0_1 : List ByteArray) (l0_2 : List Int) (l0_3 : List (S38)) (a1 : Int) : Option (Int × Int × Int × Int) := if 0 ≤ a1 then (if a1 < (l0_3.length : Int) then ((infix_Name.f k ((rd_T38 l0_3 a1).f0)).bind fun t183 => (if t183 = true then ((rules_Find.f k l0_0 l0_1 l0_2 l0_3 ((rd_T38 l0_3 a1).f0)).bind fun t188 => (if t188 < a1 then ((rules_rule_1.f 5 0 9 a1).bind fun bt189 => (some (bt189.1, bt189.2.1, bt189.2.2.1, bt189.2.2.2))) else (if ((rd_T38 l0_3 a1).f1) < 0 then (rules_rule.j0 k true l0_0 l0_1 l0_2 l0_3 a1 ((rd_T38 l0_3 a1).f0) ((rd_T38 l0_3 a1).f1) ((rd_T38 l0_3 a1).f2) ((rd_T38 l0_3 a1).f3) ((rd_T38 l0_3 a1).f4)) else (rules_rule.j0 k (decide (((rd_T38 l0_3 a1).f1) > 4)) l0_0 l0_1 l0_2 l0_3 a1 ((rd_T38 l0_3 a1).f0) ((rd_T38 l0_3 a1).f1) ((rd_T38 l0_3 a1).f2) ((rd_T38 l0_3 a1).f3) ((rd_T38 l0_3 a1).f4))))) else ((rules_rule_1.f 5 0 6 a1).bind fun bt184 => (some (bt184.1, bt184.2.1, bt184.2.2.1, bt184.2.2.2))))) else (none)) else (none)
theorem rules_rule.mono_l : ∀ k, (∀ y0 y1 y2 y3 y4 y5 y6 y7 y8 y9 y10, LeO (rules_rule.j0 k y0 y1 y2 y3 y4 y5 y6 y7 y8 y9 y10) (rules_rule.j0 (k + 1) y0 y1 y2 y3 y4 y5 y6 y7 y8 y9 y10))
 | 0 => fun _ _ _ _ _ _ _ _ _ _ _ r h => by simp [rules_rule.j0] at h
 | k + 1 => by
  have ih0 := rules_rule.mono_l k
  ·
   intro y0 y1 y2 y3 y4 y5 y6 y7 y8 y9 y10
   unfold rules_rule.j0
   repeat' first
   | (with_reducible exact ih0 _ _ _ _ _ _ _ _ _ _ _)
   | (with_reducible exact infix_Name.mono _ _)
   | (with_reducible exact rules_Find.mono _ _ _ _ _ _)
   | (with_reducible exact rules_from.mono _ _ _)
   | (with_reducible exact rules_guards.mono _ _ _ _)
   | (with_reducible exact rules_steps.mono _ _ _ _ _ _ _)
   | (with_reducible exact LeO.refl _)
   | (with_reducible exact LeO.none _)
   | (with_reducible refine LeO.ite ?_ ?_)
   | (with_reducible refine LeO.bind ?_ (fun _ => ?_))
   | exact ih0 _ _ _ _ _ _ _ _ _ _ _
   | exact infix_Name.mono _ _
   | exact rules_Find.mono _ _ _ _ _ _
   | exact rules_from.mono _ _ _
   | exact rules_guards.mono _ _ _ _
   | exact rules_steps.mono _ _ _ _ _ _ _
   | exact LeO.none _
   | refine LeO.ite ?_ ?_
   | refine LeO.bind ?_ (fun _ => ?_)
theorem rules_rule.mono : ∀ a0 a1 a2 a3 a4 k, LeO (rules_rule.f k a0 a1 a2 a3 a4) (rules_rule.f (k + 1) a0 a1 a2 a3 a4) := by
 intro a0 a1 a2 a3 a4 k
 have ih0 := rules_rule.mono_l k
 unfold rules_rule.f
 repeat' first
   | (with_reducible exact ih0 _ _ _ _ _ _ _ _ _ _ _)
   | (with_reducible exact infix_Name.mono _ _)
   | (with_reducible exact rules_Find.mono _ _ _ _ _ _)
   | (with_reducible exact rules_from.mono _ _ _)
   | (with_reducible exact rules_guards.mono _ _ _ _)
   | (with_reducible exact rules_steps.mono _ _ _ _ _ _ _)
   | (with_reducible exact LeO.refl _)
   | (with_reducible exact LeO.none _)
   | (with_reducible refine LeO.ite ?_ ?_)
   | (with_reducible refine LeO.bind ?_ (fun _ => ?_))
   | exact ih0 _ _ _ _ _ _ _ _ _ _ _
   | exact infix_Name.mono _ _
   | exact rules_Find.mono _ _ _ _ _ _
   | exact rules_from.mono _ _ _
   | exact rules_guards.mono _ _ _ _
   | exact rules_steps.mono _ _ _ _ _ _ _
   | exact LeO.none _
   | refine LeO.ite ?_ ?_
   | refine LeO.bind ?_ (fun _ => ?_)
set_option maxHeartbeats 8000000 in
set_option maxRecDepth 100000 in
theorem rules_rule.calls (k : Nat) (A0_0 : Option Addr) (c0_0 : Nat) (l0_0 : List ByteArray) (A0_1 : Option Addr) (c0_1 : Nat) (l0_1 : List ByteArray) (A0_2 : Option Addr) (c0_2 : Nat) (l0_2 : List Int) (A0_3 : Option Addr) (c0_3 : Nat) (l0_3 : List (S38)) (a1 : Int) (r1 : Int) (r2 : Int) (r3 : Int) (r4 : Int) (w : World) (hr0_0 : Kd.C Kd.string w A0_0 l0_0.length l0_0) (hc0_0 : l0_0.length ≤ c0_0) (hr0_1 : Kd.C Kd.string w A0_1 l0_1.length l0_1) (hc0_1 : l0_1.length ≤ c0_1) (hr0_2 : Kd.C (Kd.int .i64) w A0_2 l0_2.length l0_2) (hc0_2 : l0_2.length ≤ c0_2) (hr0_3 : Kd.C k38 w A0_3 l0_3.length l0_3) (hc0_3 : l0_3.length ≤ c0_3) (h : rules_rule.f k l0_0 l0_1 l0_2 l0_3 a1 = some (r1, r2, r3, r4)) :
  Calls Try.prog 29 #[.agg #[.slice A0_0 l0_0.length c0_0, .slice A0_1 l0_1.length c0_1, .slice A0_2 l0_2.length c0_2, .slice A0_3 l0_3.length c0_3], .int .i64 a1] w fun e w' => e = .returned (.agg #[.int .i64 r1, .int .i64 r2, .int .i64 r3, .int .i64 r4]) ∧ Below w.heap.size w w' := by
 have hu26 := Try.underlying26
 have hu30 := Try.underlying30
 have hu38 := Try.underlying38
 have HR0_0 := Am hr0_0
 have HC0_0 := Am hc0_0
 clear hr0_0 hc0_0
 have HR0_1 := Am hr0_1
 have HC0_1 := Am hc0_1
 clear hr0_1 hc0_1
 have HR0_2 := Am hr0_2
 have HC0_2 := Am hc0_2
 clear hr0_2 hc0_2
 have HR0_3 := Am hr0_3
 have HC0_3 := Am hc0_3
 clear hr0_3 hc0_3
 have HB := Am (Below.refl w.heap.size w)
 have H : (if 0 ≤ a1 then (if a1 < (l0_3.length : Int) then ((infix_Name.f k ((rd_T38 l0_3 a1).f0)).bind fun t183 => (if t183 = true then ((rules_Find.f k l0_0 l0_1 l0_2 l0_3 ((rd_T38 l0_3 a1).f0)).bind fun t188 => (if t188 < a1 then ((rules_rule_1.f 5 0 9 a1).bind fun bt189 => (some (bt189.1, bt189.2.1, bt189.2.2.1, bt189.2.2.2))) else (if ((rd_T38 l0_3 a1).f1) < 0 then (rules_rule.j0 k true l0_0 l0_1 l0_2 l0_3 a1 ((rd_T38 l0_3 a1).f0) ((rd_T38 l0_3 a1).f1) ((rd_T38 l0_3 a1).f2) ((rd_T38 l0_3 a1).f3) ((rd_T38 l0_3 a1).f4)) else (rules_rule.j0 k (decide (((rd_T38 l0_3 a1).f1) > 4)) l0_0 l0_1 l0_2 l0_3 a1 ((rd_T38 l0_3 a1).f0) ((rd_T38 l0_3 a1).f1) ((rd_T38 l0_3 a1).f2) ((rd_T38 l0_3 a1).f3) ((rd_T38 l0_3 a1).f4))))) else ((rules_rule_1.f 5 0 6 a1).bind fun bt184 => (some (bt184.1, bt184.2.1, bt184.2.2.1, bt184.2.2.2))))) else (none)) else (none)) = some (r1, r2, r3, r4) := h
 clear h
 by_cases c3 : 0 ≤ a1
 ·
  rw [if_pos c3] at H
  have c3b0 : decide (0 ≤ a1) = true := decide_eq_true c3
  clear c3
  by_cases c4 : a1 < (l0_3.length : Int)
  ·
   rw [if_pos c4] at H
   have c4b0 : decide (a1 < (l0_3.length : Int)) = true := decide_eq_true c4
   clear c4
   obtain ⟨t183, A50, H⟩ := Option.bind_eq_some_iff.mp H
   try dsimp only at H
   have A5 := Am A50
   clear A50
   by_cases c6 : t183 = true
   ·
    subst c6
    have H1 : ((rules_Find.f k l0_0 l0_1 l0_2 l0_3 ((rd_T38 l0_3 a1).f0)).bind fun t188 => (if t188 < a1 then ((rules_rule_1.f 5 0 9 a1).bind fun bt189 => (some (bt189.1, bt189.2.1, bt189.2.2.1, bt189.2.2.2))) else (if ((rd_T38 l0_3 a1).f1) < 0 then (rules_rule.j0 k true l0_0 l0_1 l0_2 l0_3 a1 ((rd_T38 l0_3 a1).f0) ((rd_T38 l0_3 a1).f1) ((rd_T38 l0_3 a1).f2) ((rd_T38 l0_3 a1).f3) ((rd_T38 l0_3 a1).f4)) else (rules_rule.j0 k (decide (((rd_T38 l0_3 a1).f1) > 4)) l0_0 l0_1 l0_2 l0_3 a1 ((rd_T38 l0_3 a1).f0) ((rd_T38 l0_3 a1).f1) ((rd_T38 l0_3 a1).f2) ((rd_T38 l0_3 a1).f3) ((rd_T38 l0_3 a1).f4))))) = some (r1, r2, r3, r4) := by rw [if_pos rfl] at H; exact H
    clear H
    have H := H1
    clear H1
    obtain ⟨t188, A70, H⟩ := Option.bind_eq_some_iff.mp H
    try dsimp only at H
    have A7 := Am A70
    clear A70
    by_cases c8 : t188 < a1
    ·
     rw [if_pos c8] at H
     have c8b0 : decide (t188 < a1) = true := decide_eq_true c8
     clear c8
     obtain ⟨⟨t189, t190, t191, t192⟩, A90, H⟩ := Option.bind_eq_some_iff.mp H
     replace H : (some (t189, t190, t191, t192)) = some (r1, r2, r3, r4) := H
     have A9 := Am A90
     clear A90
     simp only [Option.some.injEq, Prod.mk.injEq] at H
     obtain ⟨rfl, rfl, rfl, rfl⟩ := H
     go_enter Try.func29, Try.ntmps29
     try go_wp2_with (first | ((with_reducible refine gate_dst (N := 2) rfl ?_); refine bxe (N := 2) (cs := #[.slice A0_0 l0_0.length c0_0, .slice A0_1 l0_1.length c0_1, .slice A0_2 l0_2.length c0_2, .slice A0_3 l0_3.length c0_3]) (t := 26) ?_; intro gb178 hg w10 hbox hb; have n0_ := Am (below_step (bl) hb); have n1_ := Am (hbox); have n2_ := Am ((gE hg : w.heap.size ≤ gb178)); have n3_ := Am ((gE hg : w.heap.size ≤ gb178)); clear HB; have HB := n0_; have BK178 := n1_; have GW178 := n2_; have GE178 := n3_; clear n0_ n1_ n2_ n3_; clear hb hbox hg) | ((with_reducible refine gate_dst (N := 3) rfl ?_); refine bxe (N := 3) (cs := #[.int .i64 a1]) (t := 3) ?_; intro gb179 hg w11 hbox hb; have n0_ := Am (blk_below (kB BK178) hb); have n1_ := Am (below_step (bs) hb); have n2_ := Am (hbox); have n3_ := Am ((gE hg : w.heap.size ≤ gb179)); have n4_ := Am ((gE hg : w.heap.size ≤ gb179)); have n5_ := Am (nL hg BK178); have n6_ := Am (nG hg BK178); clear BK178; clear HB; have BK178 := n0_; have HB := n1_; have BK179 := n2_; have GW179 := n3_; have GE179 := n4_; have NB178_179 := n5_; have NB179_178 := n6_; clear n0_ n1_ n2_ n3_ n4_ n5_ n6_; clear hb hbox hg) | ((with_reducible refine gate_dst (N := 4) rfl ?_); refine bxe (N := 4) (cs := #[.int .i64 0, .int .i64 0, .int .i64 0, .int .i64 0]) (t := 30) ?_; intro gb180 hg w12 hbox hb; have n0_ := Am (blk_below (kB BK178) hb); have n1_ := Am (blk_below (kB BK179) hb); have n2_ := Am (below_step (bs) hb); have n3_ := Am (hbox); have n4_ := Am ((gE hg : w.heap.size ≤ gb180)); have n5_ := Am ((gE hg : w.heap.size ≤ gb180)); have n6_ := Am (nL hg BK178); have n7_ := Am (nG hg BK178); have n8_ := Am (nL hg BK179); have n9_ := Am (nG hg BK179); clear BK178; clear BK179; clear HB; have BK178 := n0_; have BK179 := n1_; have HB := n2_; have BK180 := n3_; have GW180 := n4_; have GE180 := n5_; have NB178_180 := n6_; have NB180_178 := n7_; have NB179_180 := n8_; have NB180_179 := n9_; clear n0_ n1_ n2_ n3_ n4_ n5_ n6_ n7_ n8_ n9_; clear hb hbox hg; have hnb13 := NB178_179.out; have hnc13 := NB179_178.out; have hnb14 := NB178_180.out; have hnc14 := NB180_178.out; have hcz15_0 := cz0 BK178.out; have hcz15_1 := cz1 BK178.out; have hcz15_2 := cz2 BK178.out; have hcz15_3 := cz3 BK178.out; have hfz15_0 := fz BK178 0; have hfz15_1 := fz BK178 1; have hfz15_2 := fz BK178 2; have hfz15_3 := fz BK178 3; have hnb16 := NB179_180.out; have hnc16 := NB180_179.out; have hcz17_0 := cz0 BK179.out; have hfz17_0 := fz BK179 0; have p181 : 0 ≤ (a1 : Int) := of_decide_eq_true az; have q181 : a1 < (l0_3.length : Int) := of_decide_eq_true az; obtain ⟨ad181, A181_2, c181_2, A181_3, c181_3, A181_4, c181_4, e181, hx181_0, hx181_1, hx181_2, hx181_3, hx181_4, hl181_2, hi181_2, hl181_3, hi181_3, hl181_4, hi181_4⟩ := at_T38 HR0_3.out a1 p181 q181; cases e181; replace hx181_0 := hX HB hx181_0; replace hx181_1 := hX HB hx181_1; replace hx181_2 := hX HB hx181_2; replace hx181_3 := hX HB hx181_3; replace hx181_4 := hX HB hx181_4; have HR181_2 := Am hi181_2; have HC181_2 := Am hl181_2; clear hi181_2 hl181_2; have HR181_3 := Am hi181_3; have HC181_3 := Am hl181_3; clear hi181_3 hl181_3; have HR181_4 := Am hi181_4; have HC181_4 := Am hl181_4; clear hi181_4 hl181_4; replace p181 := eq_true p181; replace q181 := eq_true q181) | ((with_reducible refine gate_dst (N := 5) rfl ?_); refine bxe (N := 5) (cs := #[.string (⟨#[]⟩ : ByteArray), .int .i64 0, .slice none 0 0, .slice none 0 0, .slice none 0 0]) (t := 38) ?_; intro gb182 hg w18 hbox hb; have n0_ := Am (blk_below (kB BK178) hb); have n1_ := Am (blk_below (kB BK179) hb); have n2_ := Am (blk_below (kB BK180) hb); have n3_ := Am (below_step (bs) hb); have n4_ := Am (hbox); have n5_ := Am ((gE hg : w.heap.size ≤ gb182)); have n6_ := Am ((gE hg : w.heap.size ≤ gb182)); have n7_ := Am (nL hg BK178); have n8_ := Am (nG hg BK178); have n9_ := Am (nL hg BK179); have n10_ := Am (nG hg BK179); have n11_ := Am (nL hg BK180); have n12_ := Am (nG hg BK180); clear BK178; clear BK179; clear BK180; clear HB; have BK178 := n0_; have BK179 := n1_; have BK180 := n2_; have HB := n3_; have BK182 := n4_; have GW182 := n5_; have GE182 := n6_; have NB178_182 := n7_; have NB182_178 := n8_; have NB179_182 := n9_; have NB182_179 := n10_; have NB180_182 := n11_; have NB182_180 := n12_; clear n0_ n1_ n2_ n3_ n4_ n5_ n6_ n7_ n8_ n9_ n10_ n11_ n12_; clear hb hbox hg; have hnb19 := NB182_178.out; have hnc19 := NB178_182.out; have hnb20 := NB182_179.out; have hnc20 := NB179_182.out; have hnb21 := NB182_180.out; have hnc21 := NB180_182.out; have hcz22_0 := cz0 BK182.out; have hcz22_1 := cz1 BK182.out; have hcz22_2 := cz2 BK182.out; have hcz22_3 := cz3 BK182.out; have hcz22_4 := cz4 BK182.out; have hfz22_0 := fz BK182 0; have hfz22_1 := fz BK182 1; have hfz22_2 := fz BK182 2; have hfz22_3 := fz BK182 3; have hfz22_4 := fz BK182 4) | ((with_reducible refine gate_callee (f := 47) rfl ?_); refine goesL_ (some 21) rfl rfl Try.func47 (by kernel_rfl) rfl #[.string ((rd_T38 l0_3 a1).f0)] rfl aq ?_; (with_reducible refine (infix_Name.calls k ((rd_T38 l0_3 a1).f0) true _ A5.out).mono ?_); rintro e w' ⟨rfl, ⟨nd, rfl⟩⟩; refine ⟨_, rfl, ?_⟩))
     have n0_ : Aside0 ((((((w18.setCell ⟨gb182, 0, none⟩ (.string ((rd_T38 l0_3 a1).f0))).setCell ⟨gb182, 1, none⟩ (.int .i64 ((rd_T38 l0_3 a1).f1))).setCell ⟨gb182, 2, none⟩ (.slice A181_2 ((rd_T38 l0_3 a1).f2).length c181_2)).setCell ⟨gb182, 3, none⟩ (.slice A181_3 ((rd_T38 l0_3 a1).f3).length c181_3)).setCell ⟨gb182, 4, none⟩ (.slice A181_4 ((rd_T38 l0_3 a1).f4).length c181_4)).heap[gb178]? = some (.cells #[.slice A0_0 l0_0.length c0_0, .slice A0_1 l0_1.length c0_1, .slice A0_2 l0_2.length c0_2, .slice (some ad181) l0_3.length c0_3] 26 (0, 0))) := ⟨kZ BK178⟩
     have n1_ : Aside0 ((((((w18.setCell ⟨gb182, 0, none⟩ (.string ((rd_T38 l0_3 a1).f0))).setCell ⟨gb182, 1, none⟩ (.int .i64 ((rd_T38 l0_3 a1).f1))).setCell ⟨gb182, 2, none⟩ (.slice A181_2 ((rd_T38 l0_3 a1).f2).length c181_2)).setCell ⟨gb182, 3, none⟩ (.slice A181_3 ((rd_T38 l0_3 a1).f3).length c181_3)).setCell ⟨gb182, 4, none⟩ (.slice A181_4 ((rd_T38 l0_3 a1).f4).length c181_4)).heap[gb179]? = some (.cells #[.int .i64 a1] 3 (0, 0))) := ⟨kZ BK179⟩
     have n2_ : Aside0 ((((((w18.setCell ⟨gb182, 0, none⟩ (.string ((rd_T38 l0_3 a1).f0))).setCell ⟨gb182, 1, none⟩ (.int .i64 ((rd_T38 l0_3 a1).f1))).setCell ⟨gb182, 2, none⟩ (.slice A181_2 ((rd_T38 l0_3 a1).f2).length c181_2)).setCell ⟨gb182, 3, none⟩ (.slice A181_3 ((rd_T38 l0_3 a1).f3).length c181_3)).setCell ⟨gb182, 4, none⟩ (.slice A181_4 ((rd_T38 l0_3 a1).f4).length c181_4)).heap[gb180]? = some (.cells #[.int .i64 0, .int .i64 0, .int .i64 0, .int .i64 0] 30 (0, 0))) := ⟨kZ BK180⟩
     have n3_ : Aside0 ((((((w18.setCell ⟨gb182, 0, none⟩ (.string ((rd_T38 l0_3 a1).f0))).setCell ⟨gb182, 1, none⟩ (.int .i64 ((rd_T38 l0_3 a1).f1))).setCell ⟨gb182, 2, none⟩ (.slice A181_2 ((rd_T38 l0_3 a1).f2).length c181_2)).setCell ⟨gb182, 3, none⟩ (.slice A181_3 ((rd_T38 l0_3 a1).f3).length c181_3)).setCell ⟨gb182, 4, none⟩ (.slice A181_4 ((rd_T38 l0_3 a1).f4).length c181_4)).heap[gb182]? = some (.cells #[.string ((rd_T38 l0_3 a1).f0), .int .i64 ((rd_T38 l0_3 a1).f1), .slice A181_2 ((rd_T38 l0_3 a1).f2).length c181_2, .slice A181_3 ((rd_T38 l0_3 a1).f3).length c181_3, .slice A181_4 ((rd_T38 l0_3 a1).f4).length c181_4] 38 (0, 0))) := ⟨by (with_reducible repeat (first | refine blk_drewN ?_ _ | refine blk_drew ?_ | refine blk_alloc ?_ _)); refine blk_put (cs := #[.string ((rd_T38 l0_3 a1).f0), .int .i64 ((rd_T38 l0_3 a1).f1), .slice A181_2 ((rd_T38 l0_3 a1).f2).length c181_2, .slice A181_3 ((rd_T38 l0_3 a1).f3).length c181_3, .slice none 0 0]) ?_ 4 _ rfl; (with_reducible repeat (first | refine blk_drewN ?_ _ | refine blk_drew ?_ | refine blk_alloc ?_ _)); refine blk_put (cs := #[.string ((rd_T38 l0_3 a1).f0), .int .i64 ((rd_T38 l0_3 a1).f1), .slice A181_2 ((rd_T38 l0_3 a1).f2).length c181_2, .slice none 0 0, .slice none 0 0]) ?_ 3 _ rfl; (with_reducible repeat (first | refine blk_drewN ?_ _ | refine blk_drew ?_ | refine blk_alloc ?_ _)); refine blk_put (cs := #[.string ((rd_T38 l0_3 a1).f0), .int .i64 ((rd_T38 l0_3 a1).f1), .slice none 0 0, .slice none 0 0, .slice none 0 0]) ?_ 2 _ rfl; (with_reducible repeat (first | refine blk_drewN ?_ _ | refine blk_drew ?_ | refine blk_alloc ?_ _)); refine blk_put (cs := #[.string ((rd_T38 l0_3 a1).f0), .int .i64 0, .slice none 0 0, .slice none 0 0, .slice none 0 0]) ?_ 1 _ rfl; (with_reducible repeat (first | refine blk_drewN ?_ _ | refine blk_drew ?_ | refine blk_alloc ?_ _)); refine blk_put (cs := #[.string (⟨#[]⟩ : ByteArray), .int .i64 0, .slice none 0 0, .slice none 0 0, .slice none 0 0]) ?_ 0 _ rfl; (with_reducible repeat (first | refine blk_drewN ?_ _ | refine blk_drew ?_ | refine blk_alloc ?_ _)); exact BK182.out⟩
     have n4_ : Aside0 (Below w.heap.size w (((((w18.setCell ⟨gb182, 0, none⟩ (.string ((rd_T38 l0_3 a1).f0))).setCell ⟨gb182, 1, none⟩ (.int .i64 ((rd_T38 l0_3 a1).f1))).setCell ⟨gb182, 2, none⟩ (.slice A181_2 ((rd_T38 l0_3 a1).f2).length c181_2)).setCell ⟨gb182, 3, none⟩ (.slice A181_3 ((rd_T38 l0_3 a1).f3).length c181_3)).setCell ⟨gb182, 4, none⟩ (.slice A181_4 ((rd_T38 l0_3 a1).f4).length c181_4))) := ⟨bs⟩
     (try clear BK178)
     (try clear BK179)
     (try clear BK180)
     (try clear BK182)
     (try clear HB)
     generalize (((((w18.setCell ⟨gb182, 0, none⟩ (.string ((rd_T38 l0_3 a1).f0))).setCell ⟨gb182, 1, none⟩ (.int .i64 ((rd_T38 l0_3 a1).f1))).setCell ⟨gb182, 2, none⟩ (.slice A181_2 ((rd_T38 l0_3 a1).f2).length c181_2)).setCell ⟨gb182, 3, none⟩ (.slice A181_3 ((rd_T38 l0_3 a1).f3).length c181_3)).setCell ⟨gb182, 4, none⟩ (.slice A181_4 ((rd_T38 l0_3 a1).f4).length c181_4)) = w23 at n0_ n1_ n2_ n3_ n4_ ⊢
     have BK178 := n0_
     have BK179 := n1_
     have BK180 := n2_
     have BK182 := n3_
     have HB := n4_
     clear n0_ n1_ n2_ n3_ n4_
     (try (rw [drewN_self w23]; generalize hq_ : World.drewN w23 _ = w23; have n0_ : Aside0 (w23.heap[gb178]? = some (.cells #[.slice A0_0 l0_0.length c0_0, .slice A0_1 l0_1.length c0_1, .slice A0_2 l0_2.length c0_2, .slice (some ad181) l0_3.length c0_3] 26 (0, 0))) := ⟨by rw [← hq_]; exact (kB BK178)⟩; have n1_ : Aside0 (w23.heap[gb179]? = some (.cells #[.int .i64 a1] 3 (0, 0))) := ⟨by rw [← hq_]; exact (kB BK179)⟩; have n2_ : Aside0 (w23.heap[gb180]? = some (.cells #[.int .i64 0, .int .i64 0, .int .i64 0, .int .i64 0] 30 (0, 0))) := ⟨by rw [← hq_]; exact (kB BK180)⟩; have n3_ : Aside0 (w23.heap[gb182]? = some (.cells #[.string ((rd_T38 l0_3 a1).f0), .int .i64 ((rd_T38 l0_3 a1).f1), .slice A181_2 ((rd_T38 l0_3 a1).f2).length c181_2, .slice A181_3 ((rd_T38 l0_3 a1).f3).length c181_3, .slice A181_4 ((rd_T38 l0_3 a1).f4).length c181_4] 38 (0, 0))) := ⟨by rw [← hq_]; exact (kB BK182)⟩; have n4_ : Aside0 (Below w.heap.size w w23) := ⟨by rw [← hq_]; exact (bs)⟩; clear BK178 BK179 BK180 BK182 HB hq_; have BK178 := n0_; have BK179 := n1_; have BK180 := n2_; have BK182 := n3_; have HB := n4_; clear n0_ n1_ n2_ n3_ n4_))
     have n0_ := Am (blk_drew BK178.out)
     have n1_ := Am (blk_drew BK179.out)
     have n2_ := Am (blk_drew BK180.out)
     have n3_ := Am (blk_drew BK182.out)
     have n4_ := Am (below_drew1 HB.out)
     clear BK178
     clear BK179
     clear BK180
     clear BK182
     clear HB
     have BK178 := n0_
     have BK179 := n1_
     have BK180 := n2_
     have BK182 := n3_
     have HB := n4_
     clear n0_ n1_ n2_ n3_ n4_
     refine start_ (n := 6) (S := fun w' => w'.cell? ⟨gb178, 0, none⟩ = some (.slice A0_0 l0_0.length c0_0) ∧ w'.cell? ⟨gb178, 1, none⟩ = some (.slice A0_1 l0_1.length c0_1) ∧ w'.cell? ⟨gb178, 2, none⟩ = some (.slice A0_2 l0_2.length c0_2) ∧ w'.cell? ⟨gb178, 3, none⟩ = some (.slice (some ad181) l0_3.length c0_3) ∧ w'.cell? ⟨gb182, 0, none⟩ = some (.string ((rd_T38 l0_3 a1).f0)) ∧ w'.cell? ⟨gb182, 1, none⟩ = some (.int .i64 ((rd_T38 l0_3 a1).f1)) ∧ w'.cell? ⟨gb182, 2, none⟩ = some (.slice A181_2 ((rd_T38 l0_3 a1).f2).length c181_2) ∧ w'.cell? ⟨gb182, 3, none⟩ = some (.slice A181_3 ((rd_T38 l0_3 a1).f3).length c181_3) ∧ w'.cell? ⟨gb182, 4, none⟩ = some (.slice A181_4 ((rd_T38 l0_3 a1).f4).length c181_4) ∧ w'.cell? ⟨gb179, 0, none⟩ = some (.int .i64 a1)) (ds := []) #[false, false, false, false, false, false] (by kernel_rfl) rfl rfl ⟨(blk_cell BK178.out 0).trans rfl, (blk_cell BK178.out 1).trans rfl, (blk_cell BK178.out 2).trans rfl, (blk_cell BK178.out 3).trans rfl, (blk_cell BK182.out 0).trans rfl, (blk_cell BK182.out 1).trans rfl, (blk_cell BK182.out 2).trans rfl, (blk_cell BK182.out 3).trans rfl, (blk_cell BK182.out 4).trans rfl, (blk_cell BK179.out 0).trans rfl⟩ (fun hHeld => ?_)
     generalize w23.drew = w24 at BK178 BK179 BK180 BK182 HB hHeld ⊢
     refine pure_ (i := 1) (N := some 26) (v := ?_) (a' := ?_) #[false, true, false, false, false, false] rfl rfl (by kernel_rfl) (fun _ _ _ h => h) (Or.inl ⟨by rfl, ?_⟩) ?_ ?_
     rotate_left
     ·
      intro w'
      go_simp
      with_reducible rfl
     rotate_left
     ·
      simp only [Act.put, List.setIfInBounds_toArray, List.set_cons_zero, List.set_cons_succ, i64_w, i32_w]
      rfl
     refine take_ (i := 0) (N := some 25) (v := ?_) (a' := ?_) #[true, true, false, false, false, false] rfl rfl (by kernel_rfl) (fun _ _ _ h => h) (Or.inl ⟨by rfl, ?_⟩) hHeld ?_ ?_
     rotate_left
     ·
      rintro w' ⟨s0, s1, s2, s3, s4, s5, s6, s7, s8, s9⟩
      go_simp
      with_reducible rfl
     rotate_left
     ·
      simp only [Act.put, List.setIfInBounds_toArray, List.set_cons_zero, List.set_cons_succ, i64_w, i32_w]
      rfl
     refine take_ (i := 2) (N := some 27) (v := ?_) (a' := ?_) #[true, true, true, false, false, false] rfl rfl (by kernel_rfl) (fun _ _ _ h => h) (Or.inl ⟨by rfl, ?_⟩) hHeld ?_ ?_
     rotate_left
     ·
      rintro w' ⟨s0, s1, s2, s3, s4, s5, s6, s7, s8, s9⟩
      go_simp
      with_reducible rfl
     rotate_left
     ·
      simp only [Act.put, List.setIfInBounds_toArray, List.set_cons_zero, List.set_cons_succ, i64_w, i32_w]
      rfl
     refine take_ (i := 4) (N := some 29) (v := ?_) (a' := ?_) #[true, true, true, false, true, false] rfl rfl (by kernel_rfl) (fun _ _ _ h => h) (Or.inl ⟨by rfl, ?_⟩) hHeld ?_ ?_
     rotate_left
     ·
      rintro w' ⟨s0, s1, s2, s3, s4, s5, s6, s7, s8, s9⟩
      go_simp
      with_reducible rfl
     rotate_left
     ·
      simp only [Act.put, List.setIfInBounds_toArray, List.set_cons_zero, List.set_cons_succ, i64_w, i32_w]
      rfl
     refine one_ (i := 3) (N := some 28) #[true, true, true, true, true, false] rfl rfl (by kernel_rfl) (by decide) (fun K hK => ?_)
     refine goes_ Try.func15 (by kernel_rfl) rfl #[.agg #[.slice A0_0 l0_0.length c0_0, .slice A0_1 l0_1.length c0_1, .slice A0_2 l0_2.length c0_2, .slice (some ad181) l0_3.length c0_3], .string ((rd_T38 l0_3 a1).f0)] (by rfl) rfl rfl aq ?_
     with_reducible refine (rules_Find.calls k _ _ l0_0 _ _ l0_1 _ _ l0_2 _ _ l0_3 ((rd_T38 l0_3 a1).f0) t188 _ ?side1 ?side2 ?side3 ?side4 ?side5 ?side6 ?side7 ?side8 A7.out).mono ?_
     (case side1 => exact kC HR0_0)
     (case side2 => exact HC0_0.out)
     (case side3 => exact kC HR0_1)
     (case side4 => exact HC0_1.out)
     (case side5 => exact kC HR0_2)
     (case side6 => exact HC0_2.out)
     (case side7 => exact kC HR0_3)
     (case side8 => exact HC0_3.out)
     rintro e w25 ⟨rfl, hb⟩
     refine ⟨_, rfl, ?_⟩
     have n0_ := Am (blk_below (kB BK178) hb)
     have n1_ := Am (blk_below (kB BK179) hb)
     have n2_ := Am (blk_below (kB BK180) hb)
     have n3_ := Am (blk_below (kB BK182) hb)
     have n4_ := Am (below_step (bs) hb)
     clear BK178
     clear BK179
     clear BK180
     clear BK182
     clear HB
     have BK178 := n0_
     have BK179 := n1_
     have BK180 := n2_
     have BK182 := n3_
     have HB := n4_
     clear n0_ n1_ n2_ n3_ n4_
     (try clear hb)
     (try clear hb2)
     (try clear hk)
     (try clear hi)
     refine hK.out _ _ ⟨(blk_cell BK178.out 0).trans rfl, (blk_cell BK178.out 1).trans rfl, (blk_cell BK178.out 2).trans rfl, (blk_cell BK178.out 3).trans rfl, (blk_cell BK182.out 0).trans rfl, (blk_cell BK182.out 1).trans rfl, (blk_cell BK182.out 2).trans rfl, (blk_cell BK182.out 3).trans rfl, (blk_cell BK182.out 4).trans rfl, (blk_cell BK179.out 0).trans rfl⟩ (fun hHeld => ?_)
     clear hK K
     refine norm_ (a' := ?_) ?_ ?_
     rotate_left
     ·
      show Act.put _ (some 28) _ = _
      simp only [Act.put, List.setIfInBounds_toArray, List.set_cons_zero, List.set_cons_succ, i64_w, i32_w]
      rfl
     refine pure_ (i := 5) (N := some 30) (v := ?_) (a' := ?_) #[true, true, true, true, true, true] rfl rfl (by kernel_rfl) (fun _ _ _ h => h) (Or.inl ⟨by rfl, ?_⟩) ?_ ?_
     rotate_left
     ·
      intro w'
      go_simp
      with_reducible rfl
     rotate_left
     ·
      simp only [Act.put, List.setIfInBounds_toArray, List.set_cons_zero, List.set_cons_succ, i64_w, i32_w]
      rfl
     refine done_ (by kernel_rfl) ?_
     try go_wp2_with (first | (go_at_call 46; (with_reducible refine (rules_rule_1.calls 5 0 9 a1 ⟨gb179, 0, none⟩ t189 t190 t191 t192 _ ?side1 ?side2 A9.out).mono ?_); (case side1 => exact cz0 (g := gb179) (t := 3) (a := .int .i64 a1) (l := []) (kB BK179)); (case side2 => exact blk_frozen (g := gb179) (t := 3) (cs := #[.int .i64 a1]) (kB BK179) 0); rintro e w26 ⟨rfl, hb⟩; have n0_ := Am (blk_below (kB BK178) hb); have n1_ := Am (blk_below (kB BK179) hb); have n2_ := Am (blk_below (kB BK180) hb); have n3_ := Am (blk_below (kB BK182) hb); have n4_ := Am (below_step (bs) hb); clear BK178; clear BK179; clear BK180; clear BK182; clear HB; have BK178 := n0_; have BK179 := n1_; have BK180 := n2_; have BK182 := n3_; have HB := n4_; clear n0_ n1_ n2_ n3_ n4_; (try clear hb); (try clear hb2); (try clear hk); (try clear hi); have hcz27_0 := cz0 BK180.out; have hcz27_1 := cz1 BK180.out; have hcz27_2 := cz2 BK180.out; have hcz27_3 := cz3 BK180.out; have hfz27_0 := fz BK180 0; have hfz27_1 := fz BK180 1; have hfz27_2 := fz BK180 2; have hfz27_3 := fz BK180 3))
     refine bodyPost_ret (results_cell_row rfl _ _ gb180 30 #[.int .i64 t189, .int .i64 t190, .int .i64 t191, .int .i64 t192] (0, 0) _ rfl (by (with_reducible repeat (first | refine blk_drewN ?_ _ | refine blk_drew ?_ | refine blk_alloc ?_ _)); refine blk_put (cs := #[.int .i64 t189, .int .i64 t190, .int .i64 t191, .int .i64 0]) ?_ 3 _ rfl; (with_reducible repeat (first | refine blk_drewN ?_ _ | refine blk_drew ?_ | refine blk_alloc ?_ _)); refine blk_put (cs := #[.int .i64 t189, .int .i64 t190, .int .i64 0, .int .i64 0]) ?_ 2 _ rfl; (with_reducible repeat (first | refine blk_drewN ?_ _ | refine blk_drew ?_ | refine blk_alloc ?_ _)); refine blk_put (cs := #[.int .i64 t189, .int .i64 0, .int .i64 0, .int .i64 0]) ?_ 1 _ rfl; (with_reducible repeat (first | refine blk_drewN ?_ _ | refine blk_drew ?_ | refine blk_alloc ?_ _)); refine blk_put (cs := #[.int .i64 0, .int .i64 0, .int .i64 0, .int .i64 0]) ?_ 0 _ rfl; (with_reducible repeat (first | refine blk_drewN ?_ _ | refine blk_drew ?_ | refine blk_alloc ?_ _)); exact BK180.out) Try.underlying30 rfl (by kernel_rfl)) rfl ?_
     exact ⟨xq, bs⟩
    ·
     rw [if_neg c8] at H
     have c8b0 : decide (t188 < a1) = false := decide_eq_false c8
     clear c8
     have HC28 := Am H
     clear H
     go_enter Try.func29, Try.ntmps29
     try go_wp2_with (first | ((with_reducible refine gate_dst (N := 2) rfl ?_); refine bxe (N := 2) (cs := #[.slice A0_0 l0_0.length c0_0, .slice A0_1 l0_1.length c0_1, .slice A0_2 l0_2.length c0_2, .slice A0_3 l0_3.length c0_3]) (t := 26) ?_; intro gb178 hg w29 hbox hb; have n0_ := Am (below_step (bl) hb); have n1_ := Am (hbox); have n2_ := Am ((gE hg : w.heap.size ≤ gb178)); have n3_ := Am ((gE hg : w.heap.size ≤ gb178)); clear HB; have HB := n0_; have BK178 := n1_; have GW178 := n2_; have GE178 := n3_; clear n0_ n1_ n2_ n3_; clear hb hbox hg) | ((with_reducible refine gate_dst (N := 3) rfl ?_); refine bxe (N := 3) (cs := #[.int .i64 a1]) (t := 3) ?_; intro gb179 hg w30 hbox hb; have n0_ := Am (blk_below (kB BK178) hb); have n1_ := Am (below_step (bs) hb); have n2_ := Am (hbox); have n3_ := Am ((gE hg : w.heap.size ≤ gb179)); have n4_ := Am ((gE hg : w.heap.size ≤ gb179)); have n5_ := Am (nL hg BK178); have n6_ := Am (nG hg BK178); clear BK178; clear HB; have BK178 := n0_; have HB := n1_; have BK179 := n2_; have GW179 := n3_; have GE179 := n4_; have NB178_179 := n5_; have NB179_178 := n6_; clear n0_ n1_ n2_ n3_ n4_ n5_ n6_; clear hb hbox hg) | ((with_reducible refine gate_dst (N := 4) rfl ?_); refine bxe (N := 4) (cs := #[.int .i64 0, .int .i64 0, .int .i64 0, .int .i64 0]) (t := 30) ?_; intro gb180 hg w31 hbox hb; have n0_ := Am (blk_below (kB BK178) hb); have n1_ := Am (blk_below (kB BK179) hb); have n2_ := Am (below_step (bs) hb); have n3_ := Am (hbox); have n4_ := Am ((gE hg : w.heap.size ≤ gb180)); have n5_ := Am ((gE hg : w.heap.size ≤ gb180)); have n6_ := Am (nL hg BK178); have n7_ := Am (nG hg BK178); have n8_ := Am (nL hg BK179); have n9_ := Am (nG hg BK179); clear BK178; clear BK179; clear HB; have BK178 := n0_; have BK179 := n1_; have HB := n2_; have BK180 := n3_; have GW180 := n4_; have GE180 := n5_; have NB178_180 := n6_; have NB180_178 := n7_; have NB179_180 := n8_; have NB180_179 := n9_; clear n0_ n1_ n2_ n3_ n4_ n5_ n6_ n7_ n8_ n9_; clear hb hbox hg; have hnb32 := NB178_179.out; have hnc32 := NB179_178.out; have hnb33 := NB178_180.out; have hnc33 := NB180_178.out; have hcz34_0 := cz0 BK178.out; have hcz34_1 := cz1 BK178.out; have hcz34_2 := cz2 BK178.out; have hcz34_3 := cz3 BK178.out; have hfz34_0 := fz BK178 0; have hfz34_1 := fz BK178 1; have hfz34_2 := fz BK178 2; have hfz34_3 := fz BK178 3; have hnb35 := NB179_180.out; have hnc35 := NB180_179.out; have hcz36_0 := cz0 BK179.out; have hfz36_0 := fz BK179 0; have p181 : 0 ≤ (a1 : Int) := of_decide_eq_true az; have q181 : a1 < (l0_3.length : Int) := of_decide_eq_true az; obtain ⟨ad181, A181_2, c181_2, A181_3, c181_3, A181_4, c181_4, e181, hx181_0, hx181_1, hx181_2, hx181_3, hx181_4, hl181_2, hi181_2, hl181_3, hi181_3, hl181_4, hi181_4⟩ := at_T38 HR0_3.out a1 p181 q181; cases e181; replace hx181_0 := hX HB hx181_0; replace hx181_1 := hX HB hx181_1; replace hx181_2 := hX HB hx181_2; replace hx181_3 := hX HB hx181_3; replace hx181_4 := hX HB hx181_4; have HR181_2 := Am hi181_2; have HC181_2 := Am hl181_2; clear hi181_2 hl181_2; have HR181_3 := Am hi181_3; have HC181_3 := Am hl181_3; clear hi181_3 hl181_3; have HR181_4 := Am hi181_4; have HC181_4 := Am hl181_4; clear hi181_4 hl181_4; replace p181 := eq_true p181; replace q181 := eq_true q181) | ((with_reducible refine gate_dst (N := 5) rfl ?_); refine bxe (N := 5) (cs := #[.string (⟨#[]⟩ : ByteArray), .int .i64 0, .slice none 0 0, .slice none 0 0, .slice none 0 0]) (t := 38) ?_; intro gb182 hg w37 hbox hb; have n0_ := Am (blk_below (kB BK178) hb); have n1_ := Am (blk_below (kB BK179) hb); have n2_ := Am (blk_below (kB BK180) hb); have n3_ := Am (below_step (bs) hb); have n4_ := Am (hbox); have n5_ := Am ((gE hg : w.heap.size ≤ gb182)); have n6_ := Am ((gE hg : w.heap.size ≤ gb182)); have n7_ := Am (nL hg BK178); have n8_ := Am (nG hg BK178); have n9_ := Am (nL hg BK179); have n10_ := Am (nG hg BK179); have n11_ := Am (nL hg BK180); have n12_ := Am (nG hg BK180); clear BK178; clear BK179; clear BK180; clear HB; have BK178 := n0_; have BK179 := n1_; have BK180 := n2_; have HB := n3_; have BK182 := n4_; have GW182 := n5_; have GE182 := n6_; have NB178_182 := n7_; have NB182_178 := n8_; have NB179_182 := n9_; have NB182_179 := n10_; have NB180_182 := n11_; have NB182_180 := n12_; clear n0_ n1_ n2_ n3_ n4_ n5_ n6_ n7_ n8_ n9_ n10_ n11_ n12_; clear hb hbox hg; have hnb38 := NB182_178.out; have hnc38 := NB178_182.out; have hnb39 := NB182_179.out; have hnc39 := NB179_182.out; have hnb40 := NB182_180.out; have hnc40 := NB180_182.out; have hcz41_0 := cz0 BK182.out; have hcz41_1 := cz1 BK182.out; have hcz41_2 := cz2 BK182.out; have hcz41_3 := cz3 BK182.out; have hcz41_4 := cz4 BK182.out; have hfz41_0 := fz BK182 0; have hfz41_1 := fz BK182 1; have hfz41_2 := fz BK182 2; have hfz41_3 := fz BK182 3; have hfz41_4 := fz BK182 4) | ((with_reducible refine gate_callee (f := 47) rfl ?_); refine goesL_ (some 21) rfl rfl Try.func47 (by kernel_rfl) rfl #[.string ((rd_T38 l0_3 a1).f0)] rfl aq ?_; (with_reducible refine (infix_Name.calls k ((rd_T38 l0_3 a1).f0) true _ A5.out).mono ?_); rintro e w' ⟨rfl, ⟨nd, rfl⟩⟩; refine ⟨_, rfl, ?_⟩))
     have n0_ : Aside0 ((((((w37.setCell ⟨gb182, 0, none⟩ (.string ((rd_T38 l0_3 a1).f0))).setCell ⟨gb182, 1, none⟩ (.int .i64 ((rd_T38 l0_3 a1).f1))).setCell ⟨gb182, 2, none⟩ (.slice A181_2 ((rd_T38 l0_3 a1).f2).length c181_2)).setCell ⟨gb182, 3, none⟩ (.slice A181_3 ((rd_T38 l0_3 a1).f3).length c181_3)).setCell ⟨gb182, 4, none⟩ (.slice A181_4 ((rd_T38 l0_3 a1).f4).length c181_4)).heap[gb178]? = some (.cells #[.slice A0_0 l0_0.length c0_0, .slice A0_1 l0_1.length c0_1, .slice A0_2 l0_2.length c0_2, .slice (some ad181) l0_3.length c0_3] 26 (0, 0))) := ⟨kZ BK178⟩
     have n1_ : Aside0 ((((((w37.setCell ⟨gb182, 0, none⟩ (.string ((rd_T38 l0_3 a1).f0))).setCell ⟨gb182, 1, none⟩ (.int .i64 ((rd_T38 l0_3 a1).f1))).setCell ⟨gb182, 2, none⟩ (.slice A181_2 ((rd_T38 l0_3 a1).f2).length c181_2)).setCell ⟨gb182, 3, none⟩ (.slice A181_3 ((rd_T38 l0_3 a1).f3).length c181_3)).setCell ⟨gb182, 4, none⟩ (.slice A181_4 ((rd_T38 l0_3 a1).f4).length c181_4)).heap[gb179]? = some (.cells #[.int .i64 a1] 3 (0, 0))) := ⟨kZ BK179⟩
     have n2_ : Aside0 ((((((w37.setCell ⟨gb182, 0, none⟩ (.string ((rd_T38 l0_3 a1).f0))).setCell ⟨gb182, 1, none⟩ (.int .i64 ((rd_T38 l0_3 a1).f1))).setCell ⟨gb182, 2, none⟩ (.slice A181_2 ((rd_T38 l0_3 a1).f2).length c181_2)).setCell ⟨gb182, 3, none⟩ (.slice A181_3 ((rd_T38 l0_3 a1).f3).length c181_3)).setCell ⟨gb182, 4, none⟩ (.slice A181_4 ((rd_T38 l0_3 a1).f4).length c181_4)).heap[gb180]? = some (.cells #[.int .i64 0, .int .i64 0, .int .i64 0, .int .i64 0] 30 (0, 0))) := ⟨kZ BK180⟩
     have n3_ : Aside0 ((((((w37.setCell ⟨gb182, 0, none⟩ (.string ((rd_T38 l0_3 a1).f0))).setCell ⟨gb182, 1, none⟩ (.int .i64 ((rd_T38 l0_3 a1).f1))).setCell ⟨gb182, 2, none⟩ (.slice A181_2 ((rd_T38 l0_3 a1).f2).length c181_2)).setCell ⟨gb182, 3, none⟩ (.slice A181_3 ((rd_T38 l0_3 a1).f3).length c181_3)).setCell ⟨gb182, 4, none⟩ (.slice A181_4 ((rd_T38 l0_3 a1).f4).length c181_4)).heap[gb182]? = some (.cells #[.string ((rd_T38 l0_3 a1).f0), .int .i64 ((rd_T38 l0_3 a1).f1), .slice A181_2 ((rd_T38 l0_3 a1).f2).length c181_2, .slice A181_3 ((rd_T38 l0_3 a1).f3).length c181_3, .slice A181_4 ((rd_T38 l0_3 a1).f4).length c181_4] 38 (0, 0))) := ⟨by (with_reducible repeat (first | refine blk_drewN ?_ _ | refine blk_drew ?_ | refine blk_alloc ?_ _)); refine blk_put (cs := #[.string ((rd_T38 l0_3 a1).f0), .int .i64 ((rd_T38 l0_3 a1).f1), .slice A181_2 ((rd_T38 l0_3 a1).f2).length c181_2, .slice A181_3 ((rd_T38 l0_3 a1).f3).length c181_3, .slice none 0 0]) ?_ 4 _ rfl; (with_reducible repeat (first | refine blk_drewN ?_ _ | refine blk_drew ?_ | refine blk_alloc ?_ _)); refine blk_put (cs := #[.string ((rd_T38 l0_3 a1).f0), .int .i64 ((rd_T38 l0_3 a1).f1), .slice A181_2 ((rd_T38 l0_3 a1).f2).length c181_2, .slice none 0 0, .slice none 0 0]) ?_ 3 _ rfl; (with_reducible repeat (first | refine blk_drewN ?_ _ | refine blk_drew ?_ | refine blk_alloc ?_ _)); refine blk_put (cs := #[.string ((rd_T38 l0_3 a1).f0), .int .i64 ((rd_T38 l0_3 a1).f1), .slice none 0 0, .slice none 0 0, .slice none 0 0]) ?_ 2 _ rfl; (with_reducible repeat (first | refine blk_drewN ?_ _ | refine blk_drew ?_ | refine blk_alloc ?_ _)); refine blk_put (cs := #[.string ((rd_T38 l0_3 a1).f0), .int .i64 0, .slice none 0 0, .slice none 0 0, .slice none 0 0]) ?_ 1 _ rfl; (with_reducible repeat (first | refine blk_drewN ?_ _ | refine blk_drew ?_ | refine blk_alloc ?_ _)); refine blk_put (cs := #[.string (⟨#[]⟩ : ByteArray), .int .i64 0, .slice none 0 0, .slice none 0 0, .slice none 0 0]) ?_ 0 _ rfl; (with_reducible repeat (first | refine blk_drewN ?_ _ | refine blk_drew ?_ | refine blk_alloc ?_ _)); exact BK182.out⟩
     have n4_ : Aside0 (Below w.heap.size w (((((w37.setCell ⟨gb182, 0, none⟩ (.string ((rd_T38 l0_3 a1).f0))).setCell ⟨gb182, 1, none⟩ (.int .i64 ((rd_T38 l0_3 a1).f1))).setCell ⟨gb182, 2, none⟩ (.slice A181_2 ((rd_T38 l0_3 a1).f2).length c181_2)).setCell ⟨gb182, 3, none⟩ (.slice A181_3 ((rd_T38 l0_3 a1).f3).length c181_3)).setCell ⟨gb182, 4, none⟩ (.slice A181_4 ((rd_T38 l0_3 a1).f4).length c181_4))) := ⟨bs⟩
     (try clear BK178)
     (try clear BK179)
     (try clear BK180)
     (try clear BK182)
     (try clear HB)
     generalize (((((w37.setCell ⟨gb182, 0, none⟩ (.string ((rd_T38 l0_3 a1).f0))).setCell ⟨gb182, 1, none⟩ (.int .i64 ((rd_T38 l0_3 a1).f1))).setCell ⟨gb182, 2, none⟩ (.slice A181_2 ((rd_T38 l0_3 a1).f2).length c181_2)).setCell ⟨gb182, 3, none⟩ (.slice A181_3 ((rd_T38 l0_3 a1).f3).length c181_3)).setCell ⟨gb182, 4, none⟩ (.slice A181_4 ((rd_T38 l0_3 a1).f4).length c181_4)) = w42 at n0_ n1_ n2_ n3_ n4_ ⊢
     have BK178 := n0_
     have BK179 := n1_
     have BK180 := n2_
     have BK182 := n3_
     have HB := n4_
     clear n0_ n1_ n2_ n3_ n4_
     (try (rw [drewN_self w42]; generalize hq_ : World.drewN w42 _ = w42; have n0_ : Aside0 (w42.heap[gb178]? = some (.cells #[.slice A0_0 l0_0.length c0_0, .slice A0_1 l0_1.length c0_1, .slice A0_2 l0_2.length c0_2, .slice (some ad181) l0_3.length c0_3] 26 (0, 0))) := ⟨by rw [← hq_]; exact (kB BK178)⟩; have n1_ : Aside0 (w42.heap[gb179]? = some (.cells #[.int .i64 a1] 3 (0, 0))) := ⟨by rw [← hq_]; exact (kB BK179)⟩; have n2_ : Aside0 (w42.heap[gb180]? = some (.cells #[.int .i64 0, .int .i64 0, .int .i64 0, .int .i64 0] 30 (0, 0))) := ⟨by rw [← hq_]; exact (kB BK180)⟩; have n3_ : Aside0 (w42.heap[gb182]? = some (.cells #[.string ((rd_T38 l0_3 a1).f0), .int .i64 ((rd_T38 l0_3 a1).f1), .slice A181_2 ((rd_T38 l0_3 a1).f2).length c181_2, .slice A181_3 ((rd_T38 l0_3 a1).f3).length c181_3, .slice A181_4 ((rd_T38 l0_3 a1).f4).length c181_4] 38 (0, 0))) := ⟨by rw [← hq_]; exact (kB BK182)⟩; have n4_ : Aside0 (Below w.heap.size w w42) := ⟨by rw [← hq_]; exact (bs)⟩; clear BK178 BK179 BK180 BK182 HB hq_; have BK178 := n0_; have BK179 := n1_; have BK180 := n2_; have BK182 := n3_; have HB := n4_; clear n0_ n1_ n2_ n3_ n4_))
     have n0_ := Am (blk_drew BK178.out)
     have n1_ := Am (blk_drew BK179.out)
     have n2_ := Am (blk_drew BK180.out)
     have n3_ := Am (blk_drew BK182.out)
     have n4_ := Am (below_drew1 HB.out)
     clear BK178
     clear BK179
     clear BK180
     clear BK182
     clear HB
     have BK178 := n0_
     have BK179 := n1_
     have BK180 := n2_
     have BK182 := n3_
     have HB := n4_
     clear n0_ n1_ n2_ n3_ n4_
     refine start_ (n := 6) (S := fun w' => w'.cell? ⟨gb178, 0, none⟩ = some (.slice A0_0 l0_0.length c0_0) ∧ w'.cell? ⟨gb178, 1, none⟩ = some (.slice A0_1 l0_1.length c0_1) ∧ w'.cell? ⟨gb178, 2, none⟩ = some (.slice A0_2 l0_2.length c0_2) ∧ w'.cell? ⟨gb178, 3, none⟩ = some (.slice (some ad181) l0_3.length c0_3) ∧ w'.cell? ⟨gb182, 0, none⟩ = some (.string ((rd_T38 l0_3 a1).f0)) ∧ w'.cell? ⟨gb182, 1, none⟩ = some (.int .i64 ((rd_T38 l0_3 a1).f1)) ∧ w'.cell? ⟨gb182, 2, none⟩ = some (.slice A181_2 ((rd_T38 l0_3 a1).f2).length c181_2) ∧ w'.cell? ⟨gb182, 3, none⟩ = some (.slice A181_3 ((rd_T38 l0_3 a1).f3).length c181_3) ∧ w'.cell? ⟨gb182, 4, none⟩ = some (.slice A181_4 ((rd_T38 l0_3 a1).f4).length c181_4) ∧ w'.cell? ⟨gb179, 0, none⟩ = some (.int .i64 a1)) (ds := []) #[false, false, false, false, false, false] (by kernel_rfl) rfl rfl ⟨(blk_cell BK178.out 0).trans rfl, (blk_cell BK178.out 1).trans rfl, (blk_cell BK178.out 2).trans rfl, (blk_cell BK178.out 3).trans rfl, (blk_cell BK182.out 0).trans rfl, (blk_cell BK182.out 1).trans rfl, (blk_cell BK182.out 2).trans rfl, (blk_cell BK182.out 3).trans rfl, (blk_cell BK182.out 4).trans rfl, (blk_cell BK179.out 0).trans rfl⟩ (fun hHeld => ?_)
     generalize w42.drew = w43 at BK178 BK179 BK180 BK182 HB hHeld ⊢
     refine pure_ (i := 1) (N := some 26) (v := ?_) (a' := ?_) #[false, true, false, false, false, false] rfl rfl (by kernel_rfl) (fun _ _ _ h => h) (Or.inl ⟨by rfl, ?_⟩) ?_ ?_
     rotate_left
     ·
      intro w'
      go_simp
      with_reducible rfl
     rotate_left
     ·
      simp only [Act.put, List.setIfInBounds_toArray, List.set_cons_zero, List.set_cons_succ, i64_w, i32_w]
      rfl
     refine take_ (i := 0) (N := some 25) (v := ?_) (a' := ?_) #[true, true, false, false, false, false] rfl rfl (by kernel_rfl) (fun _ _ _ h => h) (Or.inl ⟨by rfl, ?_⟩) hHeld ?_ ?_
     rotate_left
     ·
      rintro w' ⟨s0, s1, s2, s3, s4, s5, s6, s7, s8, s9⟩
      go_simp
      with_reducible rfl
     rotate_left
     ·
      simp only [Act.put, List.setIfInBounds_toArray, List.set_cons_zero, List.set_cons_succ, i64_w, i32_w]
      rfl
     refine take_ (i := 2) (N := some 27) (v := ?_) (a' := ?_) #[true, true, true, false, false, false] rfl rfl (by kernel_rfl) (fun _ _ _ h => h) (Or.inl ⟨by rfl, ?_⟩) hHeld ?_ ?_
     rotate_left
     ·
      rintro w' ⟨s0, s1, s2, s3, s4, s5, s6, s7, s8, s9⟩
      go_simp
      with_reducible rfl
     rotate_left
     ·
      simp only [Act.put, List.setIfInBounds_toArray, List.set_cons_zero, List.set_cons_succ, i64_w, i32_w]
      rfl
     refine take_ (i := 4) (N := some 29) (v := ?_) (a' := ?_) #[true, true, true, false, true, false] rfl rfl (by kernel_rfl) (fun _ _ _ h => h) (Or.inl ⟨by rfl, ?_⟩) hHeld ?_ ?_
     rotate_left
     ·
      rintro w' ⟨s0, s1, s2, s3, s4, s5, s6, s7, s8, s9⟩
      go_simp
      with_reducible rfl
     rotate_left
     ·
      simp only [Act.put, List.setIfInBounds_toArray, List.set_cons_zero, List.set_cons_succ, i64_w, i32_w]
      rfl
     refine one_ (i := 3) (N := some 28) #[true, true, true, true, true, false] rfl rfl (by kernel_rfl) (by decide) (fun K hK => ?_)
     refine goes_ Try.func15 (by kernel_rfl) rfl #[.agg #[.slice A0_0 l0_0.length c0_0, .slice A0_1 l0_1.length c0_1, .slice A0_2 l0_2.length c0_2, .slice (some ad181) l0_3.length c0_3], .string ((rd_T38 l0_3 a1).f0)] (by rfl) rfl rfl aq ?_
     with_reducible refine (rules_Find.calls k _ _ l0_0 _ _ l0_1 _ _ l0_2 _ _ l0_3 ((rd_T38 l0_3 a1).f0) t188 _ ?side1 ?side2 ?side3 ?side4 ?side5 ?side6 ?side7 ?side8 A7.out).mono ?_
     (case side1 => exact kC HR0_0)
     (case side2 => exact HC0_0.out)
     (case side3 => exact kC HR0_1)
     (case side4 => exact HC0_1.out)
     (case side5 => exact kC HR0_2)
     (case side6 => exact HC0_2.out)
     (case side7 => exact kC HR0_3)
     (case side8 => exact HC0_3.out)
     rintro e w44 ⟨rfl, hb⟩
     refine ⟨_, rfl, ?_⟩
     have n0_ := Am (blk_below (kB BK178) hb)
     have n1_ := Am (blk_below (kB BK179) hb)
     have n2_ := Am (blk_below (kB BK180) hb)
     have n3_ := Am (blk_below (kB BK182) hb)
     have n4_ := Am (below_step (bs) hb)
     clear BK178
     clear BK179
     clear BK180
     clear BK182
     clear HB
     have BK178 := n0_
     have BK179 := n1_
     have BK180 := n2_
     have BK182 := n3_
     have HB := n4_
     clear n0_ n1_ n2_ n3_ n4_
     (try clear hb)
     (try clear hb2)
     (try clear hk)
     (try clear hi)
     refine hK.out _ _ ⟨(blk_cell BK178.out 0).trans rfl, (blk_cell BK178.out 1).trans rfl, (blk_cell BK178.out 2).trans rfl, (blk_cell BK178.out 3).trans rfl, (blk_cell BK182.out 0).trans rfl, (blk_cell BK182.out 1).trans rfl, (blk_cell BK182.out 2).trans rfl, (blk_cell BK182.out 3).trans rfl, (blk_cell BK182.out 4).trans rfl, (blk_cell BK179.out 0).trans rfl⟩ (fun hHeld => ?_)
     clear hK K
     refine norm_ (a' := ?_) ?_ ?_
     rotate_left
     ·
      show Act.put _ (some 28) _ = _
      simp only [Act.put, List.setIfInBounds_toArray, List.set_cons_zero, List.set_cons_succ, i64_w, i32_w]
      rfl
     refine pure_ (i := 5) (N := some 30) (v := ?_) (a' := ?_) #[true, true, true, true, true, true] rfl rfl (by kernel_rfl) (fun _ _ _ h => h) (Or.inl ⟨by rfl, ?_⟩) ?_ ?_
     rotate_left
     ·
      intro w'
      go_simp
      with_reducible rfl
     rotate_left
     ·
      simp only [Act.put, List.setIfInBounds_toArray, List.set_cons_zero, List.set_cons_succ, i64_w, i32_w]
      rfl
     refine done_ (by kernel_rfl) ?_
     go_upto_region 7 with (fail)
     go_cut [40] (fun v40 wc => ∃ (kq : Nat) (x40_27 : Bool), v40 = .bool x40_27 ∧ Aside0 (rules_rule.j0 kq x40_27 l0_0 l0_1 l0_2 l0_3 a1 ((rd_T38 l0_3 a1).f0) ((rd_T38 l0_3 a1).f1) ((rd_T38 l0_3 a1).f2) ((rd_T38 l0_3 a1).f3) ((rd_T38 l0_3 a1).f4) = some (r1, r2, r3, r4)) ∧ Aside0 (kq ≤ k) ∧ Aside0 (wc.heap[gb178]? = some (.cells #[(.slice A0_0 l0_0.length c0_0), (.slice A0_1 l0_1.length c0_1), (.slice A0_2 l0_2.length c0_2), (.slice (some ad181) l0_3.length c0_3)] 26 (0, 0))) ∧ Aside0 (wc.heap[gb179]? = some (.cells #[.int .i64 a1] 3 (0, 0))) ∧ Aside0 (wc.heap[gb180]? = some (.cells #[.int .i64 0, .int .i64 0, .int .i64 0, .int .i64 0] 30 (0, 0))) ∧ Aside0 (wc.heap[gb182]? = some (.cells #[.string ((rd_T38 l0_3 a1).f0), .int .i64 ((rd_T38 l0_3 a1).f1), (.slice A181_2 ((rd_T38 l0_3 a1).f2).length c181_2), (.slice A181_3 ((rd_T38 l0_3 a1).f3).length c181_3), (.slice A181_4 ((rd_T38 l0_3 a1).f4).length c181_4)] 38 (0, 0))) ∧ Aside0 (Below w.heap.size w wc))
     case first =>
      have H := HC28.out
      clear HC28
      by_cases c45 : ((rd_T38 l0_3 a1).f1) < 0
      ·
       rw [if_pos c45] at H
       have c45b0 : decide (((rd_T38 l0_3 a1).f1) < 0) = true := decide_eq_true c45
       clear c45
       (first | rw [c45b0] | (simp only [i64_w, i32_w]; rw [c45b0]) | skip)
       have H' := Am H
       clear H
       have hnb46 := NB182_178.out
       have hnc46 := NB178_182.out
       have hnb47 := NB182_179.out
       have hnc47 := NB179_182.out
       have hnb48 := NB182_180.out
       have hnc48 := NB180_182.out
       have hcz49_0 := cz0 BK182.out
       have hcz49_1 := cz1 BK182.out
       have hcz49_2 := cz2 BK182.out
       have hcz49_3 := cz3 BK182.out
       have hcz49_4 := cz4 BK182.out
       have hfz49_0 := fz BK182 0
       have hfz49_1 := fz BK182 1
       have hfz49_2 := fz BK182 2
       have hfz49_3 := fz BK182 3
       have hfz49_4 := fz BK182 4
       go_wp2
       go_meet
       case rel => exact ⟨_, (true), rq, H', ⟨by first | omega | exact Nat.le_refl _⟩, ⟨kB BK178⟩, ⟨kB BK179⟩, ⟨kB BK180⟩, ⟨kB BK182⟩, ⟨bs⟩⟩
      ·
       rw [if_neg c45] at H
       have c45b0 : decide (((rd_T38 l0_3 a1).f1) < 0) = false := decide_eq_false c45
       clear c45
       (first | rw [c45b0] | (simp only [i64_w, i32_w]; rw [c45b0]) | skip)
       have H' := Am H
       clear H
       have hnb50 := NB182_178.out
       have hnc50 := NB178_182.out
       have hnb51 := NB182_179.out
       have hnc51 := NB179_182.out
       have hnb52 := NB182_180.out
       have hnc52 := NB180_182.out
       have hcz53_0 := cz0 BK182.out
       have hcz53_1 := cz1 BK182.out
       have hcz53_2 := cz2 BK182.out
       have hcz53_3 := cz3 BK182.out
       have hcz53_4 := cz4 BK182.out
       have hfz53_0 := fz BK182 0
       have hfz53_1 := fz BK182 1
       have hfz53_2 := fz BK182 2
       have hfz53_3 := fz BK182 3
       have hfz53_4 := fz BK182 4
       go_wp2
       go_meet
       case rel => exact ⟨_, (decide (((rd_T38 l0_3 a1).f1) > 4)), rq, H', ⟨by first | omega | exact Nat.le_refl _⟩, ⟨kB BK178⟩, ⟨kB BK179⟩, ⟨kB BK180⟩, ⟨kB BK182⟩, ⟨bs⟩⟩
     case rest =>
      clear HC28
      try clear c1
      try clear p1
      try clear q1
      try clear hx1
      try clear c2
      try clear p2
      try clear c3
      try clear c3b0
      try clear c4
      try clear c4b0
      try clear c5
      try clear c6
      try clear c8
      try clear c8b0
      try clear c13
      try clear c14
      try clear c15
      try clear c16
      try clear c18
      try clear p18
      try clear q18
      try clear hx18
      try clear c19
      try clear c20
      try clear c21
      try clear c29
      try clear c32
      try clear c33
      try clear c35
      try clear c38
      try clear c39
      try clear c40
      try clear c45
      try clear c45b0
      try clear c46
      try clear c47
      try clear c48
      try clear c50
      try clear c51
      try clear c52
      try clear hcz15_0
      try clear hcz15_1
      try clear hcz15_2
      try clear hcz15_3
      try clear hcz17_0
      try clear hcz22_0
      try clear hcz22_1
      try clear hcz22_2
      try clear hcz22_3
      try clear hcz22_4
      try clear hcz27_0
      try clear hcz27_1
      try clear hcz27_2
      try clear hcz27_3
      try clear hcz34_0
      try clear hcz34_1
      try clear hcz34_2
      try clear hcz34_3
      try clear hcz36_0
      try clear hcz41_0
      try clear hcz41_1
      try clear hcz41_2
      try clear hcz41_3
      try clear hcz41_4
      try clear hcz49_0
      try clear hcz49_1
      try clear hcz49_2
      try clear hcz49_3
      try clear hcz49_4
      try clear hcz53_0
      try clear hcz53_1
      try clear hcz53_2
      try clear hcz53_3
      try clear hcz53_4
      try clear hfz15_0
      try clear hfz15_1
      try clear hfz15_2
      try clear hfz15_3
      try clear hfz17_0
      try clear hfz22_0
      try clear hfz22_1
      try clear hfz22_2
      try clear hfz22_3
      try clear hfz22_4
      try clear hfz27_0
      try clear hfz27_1
      try clear hfz27_2
      try clear hfz27_3
      try clear hfz34_0
      try clear hfz34_1
      try clear hfz34_2
      try clear hfz34_3
      try clear hfz36_0
      try clear hfz41_0
      try clear hfz41_1
      try clear hfz41_2
      try clear hfz41_3
      try clear hfz41_4
      try clear hfz49_0
      try clear hfz49_1
      try clear hfz49_2
      try clear hfz49_3
      try clear hfz49_4
      try clear hfz53_0
      try clear hfz53_1
      try clear hfz53_2
      try clear hfz53_3
      try clear hfz53_4
      try clear hx181_0
      try clear hx181_1
      try clear hx181_2
      try clear hx181_3
      try clear hx181_4
      try clear p181
      try clear q181
      obtain ⟨kq, x40_27, rfl, HA, HJ27, BK178, BK179, BK180, BK182, HB⟩ := hcut
      cases kq with
      | zero => exact absurd HA.out (by simp [rules_rule.j0])
      | succ kj27 =>
       have H := HA.out
       clear HA
       simp only [rules_rule.j0] at H
       by_cases c54 : x40_27 = true
       ·
        subst c54
        have H1 : ((rules_rule_1.f 6 0 3 a1).bind fun bt193 => (some (bt193.1, bt193.2.1, bt193.2.2.1, bt193.2.2.2))) = some (r1, r2, r3, r4) := by rw [if_pos rfl] at H; exact H
        clear H
        have H := H1
        clear H1
        obtain ⟨⟨t193, t194, t195, t196⟩, A550, H⟩ := Option.bind_eq_some_iff.mp H
        replace H : (some (t193, t194, t195, t196)) = some (r1, r2, r3, r4) := H
        have A55 := Am A550
        clear A550
        simp only [Option.some.injEq, Prod.mk.injEq] at H
        obtain ⟨rfl, rfl, rfl, rfl⟩ := H
        go_wp2_with (first | (go_at_call 46; (with_reducible refine (rules_rule_1.calls 6 0 3 a1 ⟨gb179, 0, none⟩ t193 t194 t195 t196 _ ?side1 ?side2 A55.out).mono ?_); (case side1 => exact cz0 (g := gb179) (t := 3) (a := .int .i64 a1) (l := []) (kB BK179)); (case side2 => exact blk_frozen (g := gb179) (t := 3) (cs := #[.int .i64 a1]) (kB BK179) 0); rintro e w56 ⟨rfl, hb⟩; have n0_ := Am (blk_below (kB BK178) hb); have n1_ := Am (blk_below (kB BK179) hb); have n2_ := Am (blk_below (kB BK180) hb); have n3_ := Am (blk_below (kB BK182) hb); have n4_ := Am (below_step (bs) hb); clear BK178; clear BK179; clear BK180; clear BK182; clear HB; have BK178 := n0_; have BK179 := n1_; have BK180 := n2_; have BK182 := n3_; have HB := n4_; clear n0_ n1_ n2_ n3_ n4_; (try clear hb); (try clear hb2); (try clear hk); (try clear hi); have hnb57 := NB180_178.out; have hnc57 := NB178_180.out; have hnb58 := NB180_179.out; have hnc58 := NB179_180.out; have hnb59 := NB180_182.out; have hnc59 := NB182_180.out; have hcz60_0 := cz0 BK180.out; have hcz60_1 := cz1 BK180.out; have hcz60_2 := cz2 BK180.out; have hcz60_3 := cz3 BK180.out; have hfz60_0 := fz BK180 0; have hfz60_1 := fz BK180 1; have hfz60_2 := fz BK180 2; have hfz60_3 := fz BK180 3))
        refine bodyPost_ret (results_cell_row rfl _ _ gb180 30 #[.int .i64 t193, .int .i64 t194, .int .i64 t195, .int .i64 t196] (0, 0) _ rfl (by (with_reducible repeat (first | refine blk_drewN ?_ _ | refine blk_drew ?_ | refine blk_alloc ?_ _)); refine blk_put (cs := #[.int .i64 t193, .int .i64 t194, .int .i64 t195, .int .i64 0]) ?_ 3 _ rfl; (with_reducible repeat (first | refine blk_drewN ?_ _ | refine blk_drew ?_ | refine blk_alloc ?_ _)); refine blk_put (cs := #[.int .i64 t193, .int .i64 t194, .int .i64 0, .int .i64 0]) ?_ 2 _ rfl; (with_reducible repeat (first | refine blk_drewN ?_ _ | refine blk_drew ?_ | refine blk_alloc ?_ _)); refine blk_put (cs := #[.int .i64 t193, .int .i64 0, .int .i64 0, .int .i64 0]) ?_ 1 _ rfl; (with_reducible repeat (first | refine blk_drewN ?_ _ | refine blk_drew ?_ | refine blk_alloc ?_ _)); refine blk_put (cs := #[.int .i64 0, .int .i64 0, .int .i64 0, .int .i64 0]) ?_ 0 _ rfl; (with_reducible repeat (first | refine blk_drewN ?_ _ | refine blk_drew ?_ | refine blk_alloc ?_ _)); exact BK180.out) Try.underlying30 rfl (by kernel_rfl)) rfl ?_
        exact ⟨xq, bs⟩
       ·
        replace c54 := Bool.eq_false_iff.mpr c54
        subst c54
        have H1 : ((rules_from.f kj27 ((rd_T38 l0_3 a1).f2) (l0_0.length : Int)).bind fun bt197 => (if bt197.2 = 0 then ((rules_guards.f kj27 ((rd_T38 l0_3 a1).f3) (l0_1.length : Int) ((rd_T38 l0_3 a1).f1)).bind fun bt203 => (if bt203.2 = 0 then ((rules_steps.f kj27 ((rd_T38 l0_3 a1).f4) l0_0 l0_1 l0_2 l0_3 ((rd_T38 l0_3 a1).f1)).bind fun bt209 => (if bt209.2 = 0 then (some (0, 0, 0, 0)) else ((rules_rule_1.f 9 bt209.1 bt209.2 a1).bind fun bt211 => (some (bt211.1, bt211.2.1, bt211.2.2.1, bt211.2.2.2))))) else ((rules_rule_1.f 8 bt203.1 bt203.2 a1).bind fun bt205 => (some (bt205.1, bt205.2.1, bt205.2.2.1, bt205.2.2.2))))) else ((rules_rule_1.f 7 bt197.1 bt197.2 a1).bind fun bt199 => (some (bt199.1, bt199.2.1, bt199.2.2.1, bt199.2.2.2))))) = some (r1, r2, r3, r4) := by rw [if_neg (show ¬ (false = true) by decide)] at H; exact H
        clear H
        have H := H1
        clear H1
        obtain ⟨⟨t197, t198⟩, A610, H⟩ := Option.bind_eq_some_iff.mp H
        try dsimp only at H
        have A61 := Am A610
        clear A610
        by_cases c62 : t198 = 0
        ·
         rw [if_pos c62] at H
         have c62b0 : (t198 == 0) = true := beq_iff_eq.mpr c62
         have c62b1 : (t198 != 0) = false := bne_eq_false_iff_eq.mpr c62
         clear c62
         obtain ⟨⟨t203, t204⟩, A630, H⟩ := Option.bind_eq_some_iff.mp H
         try dsimp only at H
         have A63 := Am A630
         clear A630
         by_cases c64 : t204 = 0
         ·
          rw [if_pos c64] at H
          have c64b0 : (t204 == 0) = true := beq_iff_eq.mpr c64
          have c64b1 : (t204 != 0) = false := bne_eq_false_iff_eq.mpr c64
          clear c64
          obtain ⟨⟨t209, t210⟩, A650, H⟩ := Option.bind_eq_some_iff.mp H
          replace H : (if t210 = 0 then (some (0, 0, 0, 0)) else ((rules_rule_1.f 9 t209 t210 a1).bind fun bt211 => (some (bt211.1, bt211.2.1, bt211.2.2.1, bt211.2.2.2)))) = some (r1, r2, r3, r4) := H
          have A65 := Am A650
          clear A650
          by_cases c66 : t210 = 0
          ·
           rw [if_pos c66] at H
           have c66b0 : (t210 == 0) = true := beq_iff_eq.mpr c66
           have c66b1 : (t210 != 0) = false := bne_eq_false_iff_eq.mpr c66
           clear c66
           simp only [Option.some.injEq, Prod.mk.injEq] at H
           obtain ⟨rfl, rfl, rfl, rfl⟩ := H
           have hnb67 := NB182_178.out
           have hnc67 := NB178_182.out
           have hnb68 := NB182_179.out
           have hnc68 := NB179_182.out
           have hnb69 := NB182_180.out
           have hnc69 := NB180_182.out
           have hcz70_0 := cz0 BK182.out
           have hcz70_1 := cz1 BK182.out
           have hcz70_2 := cz2 BK182.out
           have hcz70_3 := cz3 BK182.out
           have hcz70_4 := cz4 BK182.out
           have hfz70_0 := fz BK182 0
           have hfz70_1 := fz BK182 1
           have hfz70_2 := fz BK182 2
           have hfz70_3 := fz BK182 3
           have hfz70_4 := fz BK182 4
           have hnb71 := NB178_179.out
           have hnc71 := NB179_178.out
           have hnb72 := NB178_180.out
           have hnc72 := NB180_178.out
           have hcz73_0 := cz0 BK178.out
           have hcz73_1 := cz1 BK178.out
           have hcz73_2 := cz2 BK178.out
           have hcz73_3 := cz3 BK178.out
           have hfz73_0 := fz BK178 0
           have hfz73_1 := fz BK178 1
           have hfz73_2 := fz BK178 2
           have hfz73_3 := fz BK178 3
           go_wp2_with (first | ((with_reducible refine gate_callee (f := 48) rfl ?_); refine goesL_ (some 49) rfl rfl Try.func48 (by kernel_rfl) rfl #[.slice A181_2 ((rd_T38 l0_3 a1).f2).length c181_2, .int .i64 (l0_0.length : Int)] rfl aq ?_; (with_reducible refine (rules_from.calls kj27 _ _ ((rd_T38 l0_3 a1).f2) (l0_0.length : Int) t197 t198 _ ?side1 ?side2 A61.out).mono ?_); (case side1 => exact kC HR181_2); (case side2 => exact HC181_2.out); rintro e w' ⟨rfl, ⟨nd, rfl⟩⟩; refine ⟨_, rfl, ?_⟩; (try (rw [drewN_self wc]; generalize hq_ : World.drewN wc _ = wc; have n0_ : Aside0 (wc.heap[gb178]? = some (.cells #[.slice A0_0 l0_0.length c0_0, .slice A0_1 l0_1.length c0_1, .slice A0_2 l0_2.length c0_2, .slice (some ad181) l0_3.length c0_3] 26 (0, 0))) := ⟨by rw [← hq_]; exact (kB BK178)⟩; have n1_ : Aside0 (wc.heap[gb179]? = some (.cells #[.int .i64 a1] 3 (0, 0))) := ⟨by rw [← hq_]; exact (kB BK179)⟩; have n2_ : Aside0 (wc.heap[gb180]? = some (.cells #[.int .i64 0, .int .i64 0, .int .i64 0, .int .i64 0] 30 (0, 0))) := ⟨by rw [← hq_]; exact (kB BK180)⟩; have n3_ : Aside0 (wc.heap[gb182]? = some (.cells #[.string ((rd_T38 l0_3 a1).f0), .int .i64 ((rd_T38 l0_3 a1).f1), .slice A181_2 ((rd_T38 l0_3 a1).f2).length c181_2, .slice A181_3 ((rd_T38 l0_3 a1).f3).length c181_3, .slice A181_4 ((rd_T38 l0_3 a1).f4).length c181_4] 38 (0, 0))) := ⟨by rw [← hq_]; exact (kB BK182)⟩; have n4_ : Aside0 (Below w.heap.size w wc) := ⟨by rw [← hq_]; exact (bs)⟩; clear BK178 BK179 BK180 BK182 HB hq_; have BK178 := n0_; have BK179 := n1_; have BK180 := n2_; have BK182 := n3_; have HB := n4_; clear n0_ n1_ n2_ n3_ n4_; (try have hcz73_0 := cz0 BK178.out); (try have hfz73_0 := fz BK178 0); (try have hcz73_1 := cz1 BK178.out); (try have hfz73_1 := fz BK178 1); (try have hcz73_2 := cz2 BK178.out); (try have hfz73_2 := fz BK178 2); (try have hcz73_3 := cz3 BK178.out); (try have hfz73_3 := fz BK178 3); (try have hcz70_0 := cz0 BK182.out); (try have hfz70_0 := fz BK182 0); (try have hcz70_1 := cz1 BK182.out); (try have hfz70_1 := fz BK182 1); (try have hcz70_2 := cz2 BK182.out); (try have hfz70_2 := fz BK182 2); (try have hcz70_3 := cz3 BK182.out); (try have hfz70_3 := fz BK182 3); (try have hcz70_4 := cz4 BK182.out); (try have hfz70_4 := fz BK182 4)))) | ((with_reducible refine gate_callee (f := 49) rfl ?_); refine goesL_ (some 66) rfl rfl Try.func49 (by kernel_rfl) rfl #[.slice A181_3 ((rd_T38 l0_3 a1).f3).length c181_3, .int .i64 (l0_1.length : Int), .int .i64 ((rd_T38 l0_3 a1).f1)] rfl aq ?_; (with_reducible refine (rules_guards.calls kj27 _ _ ((rd_T38 l0_3 a1).f3) (l0_1.length : Int) ((rd_T38 l0_3 a1).f1) t203 t204 _ ?side1 ?side2 A63.out).mono ?_); (case side1 => exact kC HR181_3); (case side2 => exact HC181_3.out); rintro e w74 ⟨rfl, hb⟩; refine ⟨_, rfl, ?_⟩; have n0_ := Am (blk_below (kB BK178) hb); have n1_ := Am (blk_below (kB BK179) hb); have n2_ := Am (blk_below (kB BK180) hb); have n3_ := Am (blk_below (kB BK182) hb); have n4_ := Am (below_step (bs) hb); clear BK178; clear BK179; clear BK180; clear BK182; clear HB; have BK178 := n0_; have BK179 := n1_; have BK180 := n2_; have BK182 := n3_; have HB := n4_; clear n0_ n1_ n2_ n3_ n4_; (try clear hb); (try clear hb2); (try clear hk); (try clear hi); have hcz75_0 := cz0 BK182.out; have hcz75_1 := cz1 BK182.out; have hcz75_2 := cz2 BK182.out; have hcz75_3 := cz3 BK182.out; have hcz75_4 := cz4 BK182.out; have hfz75_0 := fz BK182 0; have hfz75_1 := fz BK182 1; have hfz75_2 := fz BK182 2; have hfz75_3 := fz BK182 3; have hfz75_4 := fz BK182 4; have hcz76_0 := cz0 BK178.out; have hcz76_1 := cz1 BK178.out; have hcz76_2 := cz2 BK178.out; have hcz76_3 := cz3 BK178.out; have hfz76_0 := fz BK178 0; have hfz76_1 := fz BK178 1; have hfz76_2 := fz BK178 2; have hfz76_3 := fz BK178 3) | ((with_reducible refine gate_callee (f := 50) rfl ?_); refine goesL_ (some 81) rfl rfl Try.func50 (by kernel_rfl) rfl #[.slice A181_4 ((rd_T38 l0_3 a1).f4).length c181_4, .agg #[.slice A0_0 l0_0.length c0_0, .slice A0_1 l0_1.length c0_1, .slice A0_2 l0_2.length c0_2, .slice (some ad181) l0_3.length c0_3], .int .i64 ((rd_T38 l0_3 a1).f1)] rfl aq ?_; (with_reducible refine (rules_steps.calls kj27 _ _ ((rd_T38 l0_3 a1).f4) _ _ l0_0 _ _ l0_1 _ _ l0_2 _ _ l0_3 ((rd_T38 l0_3 a1).f1) t209 t210 _ ?side1 ?side2 ?side3 ?side4 ?side5 ?side6 ?side7 ?side8 ?side9 ?side10 A65.out).mono ?_); (case side1 => exact kC HR181_4); (case side2 => exact HC181_4.out); (case side3 => exact kC HR0_0); (case side4 => exact HC0_0.out); (case side5 => exact kC HR0_1); (case side6 => exact HC0_1.out); (case side7 => exact kC HR0_2); (case side8 => exact HC0_2.out); (case side9 => exact kC HR0_3); (case side10 => exact HC0_3.out); rintro e w77 ⟨rfl, hb⟩; refine ⟨_, rfl, ?_⟩; have n0_ := Am (blk_below (kB BK178) hb); have n1_ := Am (blk_below (kB BK179) hb); have n2_ := Am (blk_below (kB BK180) hb); have n3_ := Am (blk_below (kB BK182) hb); have n4_ := Am (below_step (bs) hb); clear BK178; clear BK179; clear BK180; clear BK182; clear HB; have BK178 := n0_; have BK179 := n1_; have BK180 := n2_; have BK182 := n3_; have HB := n4_; clear n0_ n1_ n2_ n3_ n4_; (try clear hb); (try clear hb2); (try clear hk); (try clear hi); have hnb78 := NB180_179.out; have hnc78 := NB179_180.out; have hcz79_0 := cz0 BK180.out; have hcz79_1 := cz1 BK180.out; have hcz79_2 := cz2 BK180.out; have hcz79_3 := cz3 BK180.out; have hfz79_0 := fz BK180 0; have hfz79_1 := fz BK180 1; have hfz79_2 := fz BK180 2; have hfz79_3 := fz BK180 3))
           refine bodyPost_ret (results_cell_row rfl _ _ gb180 30 #[.int .i64 0, .int .i64 0, .int .i64 0, .int .i64 0] (0, 0) _ rfl (by (with_reducible repeat (first | refine blk_drewN ?_ _ | refine blk_drew ?_ | refine blk_alloc ?_ _)); refine blk_put (cs := #[.int .i64 0, .int .i64 0, .int .i64 0, .int .i64 0]) ?_ 3 _ rfl; (with_reducible repeat (first | refine blk_drewN ?_ _ | refine blk_drew ?_ | refine blk_alloc ?_ _)); refine blk_put (cs := #[.int .i64 0, .int .i64 0, .int .i64 0, .int .i64 0]) ?_ 2 _ rfl; (with_reducible repeat (first | refine blk_drewN ?_ _ | refine blk_drew ?_ | refine blk_alloc ?_ _)); refine blk_put (cs := #[.int .i64 0, .int .i64 0, .int .i64 0, .int .i64 0]) ?_ 1 _ rfl; (with_reducible repeat (first | refine blk_drewN ?_ _ | refine blk_drew ?_ | refine blk_alloc ?_ _)); refine blk_put (cs := #[.int .i64 0, .int .i64 0, .int .i64 0, .int .i64 0]) ?_ 0 _ rfl; (with_reducible repeat (first | refine blk_drewN ?_ _ | refine blk_drew ?_ | refine blk_alloc ?_ _)); exact BK180.out) Try.underlying30 rfl (by kernel_rfl)) rfl ?_
           exact ⟨xq, bs⟩
          ·
           rw [if_neg c66] at H
           have c66b0 : (t210 == 0) = false := beq_eq_false_iff_ne.mpr c66
           have c66b1 : (t210 != 0) = true := bne_iff_ne.mpr c66
           obtain ⟨⟨t211, t212, t213, t214⟩, A800, H⟩ := Option.bind_eq_some_iff.mp H
           replace H : (some (t211, t212, t213, t214)) = some (r1, r2, r3, r4) := H
           have A80 := Am A800
           clear A800
           simp only [Option.some.injEq, Prod.mk.injEq] at H
           obtain ⟨rfl, rfl, rfl, rfl⟩ := H
           have hnb81 := NB182_178.out
           have hnc81 := NB178_182.out
           have hnb82 := NB182_179.out
           have hnc82 := NB179_182.out
           have hnb83 := NB182_180.out
           have hnc83 := NB180_182.out
           have hcz84_0 := cz0 BK182.out
           have hcz84_1 := cz1 BK182.out
           have hcz84_2 := cz2 BK182.out
           have hcz84_3 := cz3 BK182.out
           have hcz84_4 := cz4 BK182.out
           have hfz84_0 := fz BK182 0
           have hfz84_1 := fz BK182 1
           have hfz84_2 := fz BK182 2
           have hfz84_3 := fz BK182 3
           have hfz84_4 := fz BK182 4
           have hnb85 := NB178_179.out
           have hnc85 := NB179_178.out
           have hnb86 := NB178_180.out
           have hnc86 := NB180_178.out
           have hcz87_0 := cz0 BK178.out
           have hcz87_1 := cz1 BK178.out
           have hcz87_2 := cz2 BK178.out
           have hcz87_3 := cz3 BK178.out
           have hfz87_0 := fz BK178 0
           have hfz87_1 := fz BK178 1
           have hfz87_2 := fz BK178 2
           have hfz87_3 := fz BK178 3
           go_wp2_with (first | ((with_reducible refine gate_callee (f := 48) rfl ?_); refine goesL_ (some 49) rfl rfl Try.func48 (by kernel_rfl) rfl #[.slice A181_2 ((rd_T38 l0_3 a1).f2).length c181_2, .int .i64 (l0_0.length : Int)] rfl aq ?_; (with_reducible refine (rules_from.calls kj27 _ _ ((rd_T38 l0_3 a1).f2) (l0_0.length : Int) t197 t198 _ ?side1 ?side2 A61.out).mono ?_); (case side1 => exact kC HR181_2); (case side2 => exact HC181_2.out); rintro e w' ⟨rfl, ⟨nd, rfl⟩⟩; refine ⟨_, rfl, ?_⟩; (try (rw [drewN_self wc]; generalize hq_ : World.drewN wc _ = wc; have n0_ : Aside0 (wc.heap[gb178]? = some (.cells #[.slice A0_0 l0_0.length c0_0, .slice A0_1 l0_1.length c0_1, .slice A0_2 l0_2.length c0_2, .slice (some ad181) l0_3.length c0_3] 26 (0, 0))) := ⟨by rw [← hq_]; exact (kB BK178)⟩; have n1_ : Aside0 (wc.heap[gb179]? = some (.cells #[.int .i64 a1] 3 (0, 0))) := ⟨by rw [← hq_]; exact (kB BK179)⟩; have n2_ : Aside0 (wc.heap[gb180]? = some (.cells #[.int .i64 0, .int .i64 0, .int .i64 0, .int .i64 0] 30 (0, 0))) := ⟨by rw [← hq_]; exact (kB BK180)⟩; have n3_ : Aside0 (wc.heap[gb182]? = some (.cells #[.string ((rd_T38 l0_3 a1).f0), .int .i64 ((rd_T38 l0_3 a1).f1), .slice A181_2 ((rd_T38 l0_3 a1).f2).length c181_2, .slice A181_3 ((rd_T38 l0_3 a1).f3).length c181_3, .slice A181_4 ((rd_T38 l0_3 a1).f4).length c181_4] 38 (0, 0))) := ⟨by rw [← hq_]; exact (kB BK182)⟩; have n4_ : Aside0 (Below w.heap.size w wc) := ⟨by rw [← hq_]; exact (bs)⟩; clear BK178 BK179 BK180 BK182 HB hq_; have BK178 := n0_; have BK179 := n1_; have BK180 := n2_; have BK182 := n3_; have HB := n4_; clear n0_ n1_ n2_ n3_ n4_; (try have hcz87_0 := cz0 BK178.out); (try have hfz87_0 := fz BK178 0); (try have hcz87_1 := cz1 BK178.out); (try have hfz87_1 := fz BK178 1); (try have hcz87_2 := cz2 BK178.out); (try have hfz87_2 := fz BK178 2); (try have hcz87_3 := cz3 BK178.out); (try have hfz87_3 := fz BK178 3); (try have hcz84_0 := cz0 BK182.out); (try have hfz84_0 := fz BK182 0); (try have hcz84_1 := cz1 BK182.out); (try have hfz84_1 := fz BK182 1); (try have hcz84_2 := cz2 BK182.out); (try have hfz84_2 := fz BK182 2); (try have hcz84_3 := cz3 BK182.out); (try have hfz84_3 := fz BK182 3); (try have hcz84_4 := cz4 BK182.out); (try have hfz84_4 := fz BK182 4)))) | ((with_reducible refine gate_callee (f := 49) rfl ?_); refine goesL_ (some 66) rfl rfl Try.func49 (by kernel_rfl) rfl #[.slice A181_3 ((rd_T38 l0_3 a1).f3).length c181_3, .int .i64 (l0_1.length : Int), .int .i64 ((rd_T38 l0_3 a1).f1)] rfl aq ?_; (with_reducible refine (rules_guards.calls kj27 _ _ ((rd_T38 l0_3 a1).f3) (l0_1.length : Int) ((rd_T38 l0_3 a1).f1) t203 t204 _ ?side1 ?side2 A63.out).mono ?_); (case side1 => exact kC HR181_3); (case side2 => exact HC181_3.out); rintro e w88 ⟨rfl, hb⟩; refine ⟨_, rfl, ?_⟩; have n0_ := Am (blk_below (kB BK178) hb); have n1_ := Am (blk_below (kB BK179) hb); have n2_ := Am (blk_below (kB BK180) hb); have n3_ := Am (blk_below (kB BK182) hb); have n4_ := Am (below_step (bs) hb); clear BK178; clear BK179; clear BK180; clear BK182; clear HB; have BK178 := n0_; have BK179 := n1_; have BK180 := n2_; have BK182 := n3_; have HB := n4_; clear n0_ n1_ n2_ n3_ n4_; (try clear hb); (try clear hb2); (try clear hk); (try clear hi); have hcz89_0 := cz0 BK182.out; have hcz89_1 := cz1 BK182.out; have hcz89_2 := cz2 BK182.out; have hcz89_3 := cz3 BK182.out; have hcz89_4 := cz4 BK182.out; have hfz89_0 := fz BK182 0; have hfz89_1 := fz BK182 1; have hfz89_2 := fz BK182 2; have hfz89_3 := fz BK182 3; have hfz89_4 := fz BK182 4; have hcz90_0 := cz0 BK178.out; have hcz90_1 := cz1 BK178.out; have hcz90_2 := cz2 BK178.out; have hcz90_3 := cz3 BK178.out; have hfz90_0 := fz BK178 0; have hfz90_1 := fz BK178 1; have hfz90_2 := fz BK178 2; have hfz90_3 := fz BK178 3) | ((with_reducible refine gate_callee (f := 50) rfl ?_); refine goesL_ (some 81) rfl rfl Try.func50 (by kernel_rfl) rfl #[.slice A181_4 ((rd_T38 l0_3 a1).f4).length c181_4, .agg #[.slice A0_0 l0_0.length c0_0, .slice A0_1 l0_1.length c0_1, .slice A0_2 l0_2.length c0_2, .slice (some ad181) l0_3.length c0_3], .int .i64 ((rd_T38 l0_3 a1).f1)] rfl aq ?_; (with_reducible refine (rules_steps.calls kj27 _ _ ((rd_T38 l0_3 a1).f4) _ _ l0_0 _ _ l0_1 _ _ l0_2 _ _ l0_3 ((rd_T38 l0_3 a1).f1) t209 t210 _ ?side1 ?side2 ?side3 ?side4 ?side5 ?side6 ?side7 ?side8 ?side9 ?side10 A65.out).mono ?_); (case side1 => exact kC HR181_4); (case side2 => exact HC181_4.out); (case side3 => exact kC HR0_0); (case side4 => exact HC0_0.out); (case side5 => exact kC HR0_1); (case side6 => exact HC0_1.out); (case side7 => exact kC HR0_2); (case side8 => exact HC0_2.out); (case side9 => exact kC HR0_3); (case side10 => exact HC0_3.out); rintro e w91 ⟨rfl, hb⟩; refine ⟨_, rfl, ?_⟩; have n0_ := Am (blk_below (kB BK178) hb); have n1_ := Am (blk_below (kB BK179) hb); have n2_ := Am (blk_below (kB BK180) hb); have n3_ := Am (blk_below (kB BK182) hb); have n4_ := Am (below_step (bs) hb); clear BK178; clear BK179; clear BK180; clear BK182; clear HB; have BK178 := n0_; have BK179 := n1_; have BK180 := n2_; have BK182 := n3_; have HB := n4_; clear n0_ n1_ n2_ n3_ n4_; (try clear hb); (try clear hb2); (try clear hk); (try clear hi)) | (go_at_call 46; (with_reducible refine (rules_rule_1.calls 9 t209 t210 a1 ⟨gb179, 0, none⟩ t211 t212 t213 t214 _ ?side1 ?side2 A80.out).mono ?_); (case side1 => exact cz0 (g := gb179) (t := 3) (a := .int .i64 a1) (l := []) (kB BK179)); (case side2 => exact blk_frozen (g := gb179) (t := 3) (cs := #[.int .i64 a1]) (kB BK179) 0); rintro e w92 ⟨rfl, hb⟩; have n0_ := Am (blk_below (kB BK178) hb); have n1_ := Am (blk_below (kB BK179) hb); have n2_ := Am (blk_below (kB BK180) hb); have n3_ := Am (blk_below (kB BK182) hb); have n4_ := Am (below_step (bs) hb); clear BK178; clear BK179; clear BK180; clear BK182; clear HB; have BK178 := n0_; have BK179 := n1_; have BK180 := n2_; have BK182 := n3_; have HB := n4_; clear n0_ n1_ n2_ n3_ n4_; (try clear hb); (try clear hb2); (try clear hk); (try clear hi); have hnb93 := NB180_179.out; have hnc93 := NB179_180.out; have hcz94_0 := cz0 BK180.out; have hcz94_1 := cz1 BK180.out; have hcz94_2 := cz2 BK180.out; have hcz94_3 := cz3 BK180.out; have hfz94_0 := fz BK180 0; have hfz94_1 := fz BK180 1; have hfz94_2 := fz BK180 2; have hfz94_3 := fz BK180 3))
           refine bodyPost_ret (results_cell_row rfl _ _ gb180 30 #[.int .i64 t211, .int .i64 t212, .int .i64 t213, .int .i64 t214] (0, 0) _ rfl (by (with_reducible repeat (first | refine blk_drewN ?_ _ | refine blk_drew ?_ | refine blk_alloc ?_ _)); refine blk_put (cs := #[.int .i64 t211, .int .i64 t212, .int .i64 t213, .int .i64 0]) ?_ 3 _ rfl; (with_reducible repeat (first | refine blk_drewN ?_ _ | refine blk_drew ?_ | refine blk_alloc ?_ _)); refine blk_put (cs := #[.int .i64 t211, .int .i64 t212, .int .i64 0, .int .i64 0]) ?_ 2 _ rfl; (with_reducible repeat (first | refine blk_drewN ?_ _ | refine blk_drew ?_ | refine blk_alloc ?_ _)); refine blk_put (cs := #[.int .i64 t211, .int .i64 0, .int .i64 0, .int .i64 0]) ?_ 1 _ rfl; (with_reducible repeat (first | refine blk_drewN ?_ _ | refine blk_drew ?_ | refine blk_alloc ?_ _)); refine blk_put (cs := #[.int .i64 0, .int .i64 0, .int .i64 0, .int .i64 0]) ?_ 0 _ rfl; (with_reducible repeat (first | refine blk_drewN ?_ _ | refine blk_drew ?_ | refine blk_alloc ?_ _)); exact BK180.out) Try.underlying30 rfl (by kernel_rfl)) rfl ?_
           exact ⟨xq, bs⟩
         ·
          rw [if_neg c64] at H
          have c64b0 : (t204 == 0) = false := beq_eq_false_iff_ne.mpr c64
          have c64b1 : (t204 != 0) = true := bne_iff_ne.mpr c64
          obtain ⟨⟨t205, t206, t207, t208⟩, A950, H⟩ := Option.bind_eq_some_iff.mp H
          replace H : (some (t205, t206, t207, t208)) = some (r1, r2, r3, r4) := H
          have A95 := Am A950
          clear A950
          simp only [Option.some.injEq, Prod.mk.injEq] at H
          obtain ⟨rfl, rfl, rfl, rfl⟩ := H
          have hnb96 := NB182_178.out
          have hnc96 := NB178_182.out
          have hnb97 := NB182_179.out
          have hnc97 := NB179_182.out
          have hnb98 := NB182_180.out
          have hnc98 := NB180_182.out
          have hcz99_0 := cz0 BK182.out
          have hcz99_1 := cz1 BK182.out
          have hcz99_2 := cz2 BK182.out
          have hcz99_3 := cz3 BK182.out
          have hcz99_4 := cz4 BK182.out
          have hfz99_0 := fz BK182 0
          have hfz99_1 := fz BK182 1
          have hfz99_2 := fz BK182 2
          have hfz99_3 := fz BK182 3
          have hfz99_4 := fz BK182 4
          have hnb100 := NB178_179.out
          have hnc100 := NB179_178.out
          have hnb101 := NB178_180.out
          have hnc101 := NB180_178.out
          have hcz102_0 := cz0 BK178.out
          have hcz102_1 := cz1 BK178.out
          have hcz102_2 := cz2 BK178.out
          have hcz102_3 := cz3 BK178.out
          have hfz102_0 := fz BK178 0
          have hfz102_1 := fz BK178 1
          have hfz102_2 := fz BK178 2
          have hfz102_3 := fz BK178 3
          go_wp2_with (first | ((with_reducible refine gate_callee (f := 48) rfl ?_); refine goesL_ (some 49) rfl rfl Try.func48 (by kernel_rfl) rfl #[.slice A181_2 ((rd_T38 l0_3 a1).f2).length c181_2, .int .i64 (l0_0.length : Int)] rfl aq ?_; (with_reducible refine (rules_from.calls kj27 _ _ ((rd_T38 l0_3 a1).f2) (l0_0.length : Int) t197 t198 _ ?side1 ?side2 A61.out).mono ?_); (case side1 => exact kC HR181_2); (case side2 => exact HC181_2.out); rintro e w' ⟨rfl, ⟨nd, rfl⟩⟩; refine ⟨_, rfl, ?_⟩; (try (rw [drewN_self wc]; generalize hq_ : World.drewN wc _ = wc; have n0_ : Aside0 (wc.heap[gb178]? = some (.cells #[.slice A0_0 l0_0.length c0_0, .slice A0_1 l0_1.length c0_1, .slice A0_2 l0_2.length c0_2, .slice (some ad181) l0_3.length c0_3] 26 (0, 0))) := ⟨by rw [← hq_]; exact (kB BK178)⟩; have n1_ : Aside0 (wc.heap[gb179]? = some (.cells #[.int .i64 a1] 3 (0, 0))) := ⟨by rw [← hq_]; exact (kB BK179)⟩; have n2_ : Aside0 (wc.heap[gb180]? = some (.cells #[.int .i64 0, .int .i64 0, .int .i64 0, .int .i64 0] 30 (0, 0))) := ⟨by rw [← hq_]; exact (kB BK180)⟩; have n3_ : Aside0 (wc.heap[gb182]? = some (.cells #[.string ((rd_T38 l0_3 a1).f0), .int .i64 ((rd_T38 l0_3 a1).f1), .slice A181_2 ((rd_T38 l0_3 a1).f2).length c181_2, .slice A181_3 ((rd_T38 l0_3 a1).f3).length c181_3, .slice A181_4 ((rd_T38 l0_3 a1).f4).length c181_4] 38 (0, 0))) := ⟨by rw [← hq_]; exact (kB BK182)⟩; have n4_ : Aside0 (Below w.heap.size w wc) := ⟨by rw [← hq_]; exact (bs)⟩; clear BK178 BK179 BK180 BK182 HB hq_; have BK178 := n0_; have BK179 := n1_; have BK180 := n2_; have BK182 := n3_; have HB := n4_; clear n0_ n1_ n2_ n3_ n4_; (try have hcz102_0 := cz0 BK178.out); (try have hfz102_0 := fz BK178 0); (try have hcz102_1 := cz1 BK178.out); (try have hfz102_1 := fz BK178 1); (try have hcz102_2 := cz2 BK178.out); (try have hfz102_2 := fz BK178 2); (try have hcz102_3 := cz3 BK178.out); (try have hfz102_3 := fz BK178 3); (try have hcz99_0 := cz0 BK182.out); (try have hfz99_0 := fz BK182 0); (try have hcz99_1 := cz1 BK182.out); (try have hfz99_1 := fz BK182 1); (try have hcz99_2 := cz2 BK182.out); (try have hfz99_2 := fz BK182 2); (try have hcz99_3 := cz3 BK182.out); (try have hfz99_3 := fz BK182 3); (try have hcz99_4 := cz4 BK182.out); (try have hfz99_4 := fz BK182 4)))) | ((with_reducible refine gate_callee (f := 49) rfl ?_); refine goesL_ (some 66) rfl rfl Try.func49 (by kernel_rfl) rfl #[.slice A181_3 ((rd_T38 l0_3 a1).f3).length c181_3, .int .i64 (l0_1.length : Int), .int .i64 ((rd_T38 l0_3 a1).f1)] rfl aq ?_; (with_reducible refine (rules_guards.calls kj27 _ _ ((rd_T38 l0_3 a1).f3) (l0_1.length : Int) ((rd_T38 l0_3 a1).f1) t203 t204 _ ?side1 ?side2 A63.out).mono ?_); (case side1 => exact kC HR181_3); (case side2 => exact HC181_3.out); rintro e w103 ⟨rfl, hb⟩; refine ⟨_, rfl, ?_⟩; have n0_ := Am (blk_below (kB BK178) hb); have n1_ := Am (blk_below (kB BK179) hb); have n2_ := Am (blk_below (kB BK180) hb); have n3_ := Am (blk_below (kB BK182) hb); have n4_ := Am (below_step (bs) hb); clear BK178; clear BK179; clear BK180; clear BK182; clear HB; have BK178 := n0_; have BK179 := n1_; have BK180 := n2_; have BK182 := n3_; have HB := n4_; clear n0_ n1_ n2_ n3_ n4_; (try clear hb); (try clear hb2); (try clear hk); (try clear hi)) | (go_at_call 46; (with_reducible refine (rules_rule_1.calls 8 t203 t204 a1 ⟨gb179, 0, none⟩ t205 t206 t207 t208 _ ?side1 ?side2 A95.out).mono ?_); (case side1 => exact cz0 (g := gb179) (t := 3) (a := .int .i64 a1) (l := []) (kB BK179)); (case side2 => exact blk_frozen (g := gb179) (t := 3) (cs := #[.int .i64 a1]) (kB BK179) 0); rintro e w104 ⟨rfl, hb⟩; have n0_ := Am (blk_below (kB BK178) hb); have n1_ := Am (blk_below (kB BK179) hb); have n2_ := Am (blk_below (kB BK180) hb); have n3_ := Am (blk_below (kB BK182) hb); have n4_ := Am (below_step (bs) hb); clear BK178; clear BK179; clear BK180; clear BK182; clear HB; have BK178 := n0_; have BK179 := n1_; have BK180 := n2_; have BK182 := n3_; have HB := n4_; clear n0_ n1_ n2_ n3_ n4_; (try clear hb); (try clear hb2); (try clear hk); (try clear hi); have hnb105 := NB180_179.out; have hnc105 := NB179_180.out; have hcz106_0 := cz0 BK180.out; have hcz106_1 := cz1 BK180.out; have hcz106_2 := cz2 BK180.out; have hcz106_3 := cz3 BK180.out; have hfz106_0 := fz BK180 0; have hfz106_1 := fz BK180 1; have hfz106_2 := fz BK180 2; have hfz106_3 := fz BK180 3))
          refine bodyPost_ret (results_cell_row rfl _ _ gb180 30 #[.int .i64 t205, .int .i64 t206, .int .i64 t207, .int .i64 t208] (0, 0) _ rfl (by (with_reducible repeat (first | refine blk_drewN ?_ _ | refine blk_drew ?_ | refine blk_alloc ?_ _)); refine blk_put (cs := #[.int .i64 t205, .int .i64 t206, .int .i64 t207, .int .i64 0]) ?_ 3 _ rfl; (with_reducible repeat (first | refine blk_drewN ?_ _ | refine blk_drew ?_ | refine blk_alloc ?_ _)); refine blk_put (cs := #[.int .i64 t205, .int .i64 t206, .int .i64 0, .int .i64 0]) ?_ 2 _ rfl; (with_reducible repeat (first | refine blk_drewN ?_ _ | refine blk_drew ?_ | refine blk_alloc ?_ _)); refine blk_put (cs := #[.int .i64 t205, .int .i64 0, .int .i64 0, .int .i64 0]) ?_ 1 _ rfl; (with_reducible repeat (first | refine blk_drewN ?_ _ | refine blk_drew ?_ | refine blk_alloc ?_ _)); refine blk_put (cs := #[.int .i64 0, .int .i64 0, .int .i64 0, .int .i64 0]) ?_ 0 _ rfl; (with_reducible repeat (first | refine blk_drewN ?_ _ | refine blk_drew ?_ | refine blk_alloc ?_ _)); exact BK180.out) Try.underlying30 rfl (by kernel_rfl)) rfl ?_
          exact ⟨xq, bs⟩
        ·
         rw [if_neg c62] at H
         have c62b0 : (t198 == 0) = false := beq_eq_false_iff_ne.mpr c62
         have c62b1 : (t198 != 0) = true := bne_iff_ne.mpr c62
         obtain ⟨⟨t199, t200, t201, t202⟩, A1070, H⟩ := Option.bind_eq_some_iff.mp H
         replace H : (some (t199, t200, t201, t202)) = some (r1, r2, r3, r4) := H
         have A107 := Am A1070
         clear A1070
         simp only [Option.some.injEq, Prod.mk.injEq] at H
         obtain ⟨rfl, rfl, rfl, rfl⟩ := H
         have hnb108 := NB182_178.out
         have hnc108 := NB178_182.out
         have hnb109 := NB182_179.out
         have hnc109 := NB179_182.out
         have hnb110 := NB182_180.out
         have hnc110 := NB180_182.out
         have hcz111_0 := cz0 BK182.out
         have hcz111_1 := cz1 BK182.out
         have hcz111_2 := cz2 BK182.out
         have hcz111_3 := cz3 BK182.out
         have hcz111_4 := cz4 BK182.out
         have hfz111_0 := fz BK182 0
         have hfz111_1 := fz BK182 1
         have hfz111_2 := fz BK182 2
         have hfz111_3 := fz BK182 3
         have hfz111_4 := fz BK182 4
         have hnb112 := NB178_179.out
         have hnc112 := NB179_178.out
         have hnb113 := NB178_180.out
         have hnc113 := NB180_178.out
         have hcz114_0 := cz0 BK178.out
         have hcz114_1 := cz1 BK178.out
         have hcz114_2 := cz2 BK178.out
         have hcz114_3 := cz3 BK178.out
         have hfz114_0 := fz BK178 0
         have hfz114_1 := fz BK178 1
         have hfz114_2 := fz BK178 2
         have hfz114_3 := fz BK178 3
         go_wp2_with (first | ((with_reducible refine gate_callee (f := 48) rfl ?_); refine goesL_ (some 49) rfl rfl Try.func48 (by kernel_rfl) rfl #[.slice A181_2 ((rd_T38 l0_3 a1).f2).length c181_2, .int .i64 (l0_0.length : Int)] rfl aq ?_; (with_reducible refine (rules_from.calls kj27 _ _ ((rd_T38 l0_3 a1).f2) (l0_0.length : Int) t197 t198 _ ?side1 ?side2 A61.out).mono ?_); (case side1 => exact kC HR181_2); (case side2 => exact HC181_2.out); rintro e w' ⟨rfl, ⟨nd, rfl⟩⟩; refine ⟨_, rfl, ?_⟩; (try (rw [drewN_self wc]; generalize hq_ : World.drewN wc _ = wc; have n0_ : Aside0 (wc.heap[gb178]? = some (.cells #[.slice A0_0 l0_0.length c0_0, .slice A0_1 l0_1.length c0_1, .slice A0_2 l0_2.length c0_2, .slice (some ad181) l0_3.length c0_3] 26 (0, 0))) := ⟨by rw [← hq_]; exact (kB BK178)⟩; have n1_ : Aside0 (wc.heap[gb179]? = some (.cells #[.int .i64 a1] 3 (0, 0))) := ⟨by rw [← hq_]; exact (kB BK179)⟩; have n2_ : Aside0 (wc.heap[gb180]? = some (.cells #[.int .i64 0, .int .i64 0, .int .i64 0, .int .i64 0] 30 (0, 0))) := ⟨by rw [← hq_]; exact (kB BK180)⟩; have n3_ : Aside0 (wc.heap[gb182]? = some (.cells #[.string ((rd_T38 l0_3 a1).f0), .int .i64 ((rd_T38 l0_3 a1).f1), .slice A181_2 ((rd_T38 l0_3 a1).f2).length c181_2, .slice A181_3 ((rd_T38 l0_3 a1).f3).length c181_3, .slice A181_4 ((rd_T38 l0_3 a1).f4).length c181_4] 38 (0, 0))) := ⟨by rw [← hq_]; exact (kB BK182)⟩; have n4_ : Aside0 (Below w.heap.size w wc) := ⟨by rw [← hq_]; exact (bs)⟩; clear BK178 BK179 BK180 BK182 HB hq_; have BK178 := n0_; have BK179 := n1_; have BK180 := n2_; have BK182 := n3_; have HB := n4_; clear n0_ n1_ n2_ n3_ n4_; (try have hcz114_0 := cz0 BK178.out); (try have hfz114_0 := fz BK178 0); (try have hcz114_1 := cz1 BK178.out); (try have hfz114_1 := fz BK178 1); (try have hcz114_2 := cz2 BK178.out); (try have hfz114_2 := fz BK178 2); (try have hcz114_3 := cz3 BK178.out); (try have hfz114_3 := fz BK178 3); (try have hcz111_0 := cz0 BK182.out); (try have hfz111_0 := fz BK182 0); (try have hcz111_1 := cz1 BK182.out); (try have hfz111_1 := fz BK182 1); (try have hcz111_2 := cz2 BK182.out); (try have hfz111_2 := fz BK182 2); (try have hcz111_3 := cz3 BK182.out); (try have hfz111_3 := fz BK182 3); (try have hcz111_4 := cz4 BK182.out); (try have hfz111_4 := fz BK182 4)))) | (go_at_call 46; (with_reducible refine (rules_rule_1.calls 7 t197 t198 a1 ⟨gb179, 0, none⟩ t199 t200 t201 t202 _ ?side1 ?side2 A107.out).mono ?_); (case side1 => exact cz0 (g := gb179) (t := 3) (a := .int .i64 a1) (l := []) (kB BK179)); (case side2 => exact blk_frozen (g := gb179) (t := 3) (cs := #[.int .i64 a1]) (kB BK179) 0); rintro e w115 ⟨rfl, hb⟩; have n0_ := Am (blk_below (kB BK178) hb); have n1_ := Am (blk_below (kB BK179) hb); have n2_ := Am (blk_below (kB BK180) hb); have n3_ := Am (blk_below (kB BK182) hb); have n4_ := Am (below_step (bs) hb); clear BK178; clear BK179; clear BK180; clear BK182; clear HB; have BK178 := n0_; have BK179 := n1_; have BK180 := n2_; have BK182 := n3_; have HB := n4_; clear n0_ n1_ n2_ n3_ n4_; (try clear hb); (try clear hb2); (try clear hk); (try clear hi); have hnb116 := NB180_179.out; have hnc116 := NB179_180.out; have hcz117_0 := cz0 BK180.out; have hcz117_1 := cz1 BK180.out; have hcz117_2 := cz2 BK180.out; have hcz117_3 := cz3 BK180.out; have hfz117_0 := fz BK180 0; have hfz117_1 := fz BK180 1; have hfz117_2 := fz BK180 2; have hfz117_3 := fz BK180 3))
         refine bodyPost_ret (results_cell_row rfl _ _ gb180 30 #[.int .i64 t199, .int .i64 t200, .int .i64 t201, .int .i64 t202] (0, 0) _ rfl (by (with_reducible repeat (first | refine blk_drewN ?_ _ | refine blk_drew ?_ | refine blk_alloc ?_ _)); refine blk_put (cs := #[.int .i64 t199, .int .i64 t200, .int .i64 t201, .int .i64 0]) ?_ 3 _ rfl; (with_reducible repeat (first | refine blk_drewN ?_ _ | refine blk_drew ?_ | refine blk_alloc ?_ _)); refine blk_put (cs := #[.int .i64 t199, .int .i64 t200, .int .i64 0, .int .i64 0]) ?_ 2 _ rfl; (with_reducible repeat (first | refine blk_drewN ?_ _ | refine blk_drew ?_ | refine blk_alloc ?_ _)); refine blk_put (cs := #[.int .i64 t199, .int .i64 0, .int .i64 0, .int .i64 0]) ?_ 1 _ rfl; (with_reducible repeat (first | refine blk_drewN ?_ _ | refine blk_drew ?_ | refine blk_alloc ?_ _)); refine blk_put (cs := #[.int .i64 0, .int .i64 0, .int .i64 0, .int .i64 0]) ?_ 0 _ rfl; (with_reducible repeat (first | refine blk_drewN ?_ _ | refine blk_drew ?_ | refine blk_alloc ?_ _)); exact BK180.out) Try.underlying30 rfl (by kernel_rfl)) rfl ?_
         exact ⟨xq, bs⟩
   ·
    replace c6 := Bool.eq_false_iff.mpr c6
    subst c6
    have H1 : ((rules_rule_1.f 5 0 6 a1).bind fun bt184 => (some (bt184.1, bt184.2.1, bt184.2.2.1, bt184.2.2.2))) = some (r1, r2, r3, r4) := by rw [if_neg (show ¬ (false = true) by decide)] at H; exact H
    clear H
    have H := H1
    clear H1
    obtain ⟨⟨t184, t185, t186, t187⟩, A1180, H⟩ := Option.bind_eq_some_iff.mp H
    replace H : (some (t184, t185, t186, t187)) = some (r1, r2, r3, r4) := H
    have A118 := Am A1180
    clear A1180
    simp only [Option.some.injEq, Prod.mk.injEq] at H
    obtain ⟨rfl, rfl, rfl, rfl⟩ := H
    go_enter Try.func29, Try.ntmps29
    go_wp2_with (first | ((with_reducible refine gate_dst (N := 2) rfl ?_); refine bxe (N := 2) (cs := #[.slice A0_0 l0_0.length c0_0, .slice A0_1 l0_1.length c0_1, .slice A0_2 l0_2.length c0_2, .slice A0_3 l0_3.length c0_3]) (t := 26) ?_; intro gb178 hg w119 hbox hb; have n0_ := Am (below_step (bl) hb); have n1_ := Am (hbox); have n2_ := Am ((gE hg : w.heap.size ≤ gb178)); have n3_ := Am ((gE hg : w.heap.size ≤ gb178)); clear HB; have HB := n0_; have BK178 := n1_; have GW178 := n2_; have GE178 := n3_; clear n0_ n1_ n2_ n3_; clear hb hbox hg) | ((with_reducible refine gate_dst (N := 3) rfl ?_); refine bxe (N := 3) (cs := #[.int .i64 a1]) (t := 3) ?_; intro gb179 hg w120 hbox hb; have n0_ := Am (blk_below (kB BK178) hb); have n1_ := Am (below_step (bs) hb); have n2_ := Am (hbox); have n3_ := Am ((gE hg : w.heap.size ≤ gb179)); have n4_ := Am ((gE hg : w.heap.size ≤ gb179)); have n5_ := Am (nL hg BK178); have n6_ := Am (nG hg BK178); clear BK178; clear HB; have BK178 := n0_; have HB := n1_; have BK179 := n2_; have GW179 := n3_; have GE179 := n4_; have NB178_179 := n5_; have NB179_178 := n6_; clear n0_ n1_ n2_ n3_ n4_ n5_ n6_; clear hb hbox hg) | ((with_reducible refine gate_dst (N := 4) rfl ?_); refine bxe (N := 4) (cs := #[.int .i64 0, .int .i64 0, .int .i64 0, .int .i64 0]) (t := 30) ?_; intro gb180 hg w121 hbox hb; have n0_ := Am (blk_below (kB BK178) hb); have n1_ := Am (blk_below (kB BK179) hb); have n2_ := Am (below_step (bs) hb); have n3_ := Am (hbox); have n4_ := Am ((gE hg : w.heap.size ≤ gb180)); have n5_ := Am ((gE hg : w.heap.size ≤ gb180)); have n6_ := Am (nL hg BK178); have n7_ := Am (nG hg BK178); have n8_ := Am (nL hg BK179); have n9_ := Am (nG hg BK179); clear BK178; clear BK179; clear HB; have BK178 := n0_; have BK179 := n1_; have HB := n2_; have BK180 := n3_; have GW180 := n4_; have GE180 := n5_; have NB178_180 := n6_; have NB180_178 := n7_; have NB179_180 := n8_; have NB180_179 := n9_; clear n0_ n1_ n2_ n3_ n4_ n5_ n6_ n7_ n8_ n9_; clear hb hbox hg; have hnb122 := NB178_179.out; have hnc122 := NB179_178.out; have hnb123 := NB178_180.out; have hnc123 := NB180_178.out; have hcz124_0 := cz0 BK178.out; have hcz124_1 := cz1 BK178.out; have hcz124_2 := cz2 BK178.out; have hcz124_3 := cz3 BK178.out; have hfz124_0 := fz BK178 0; have hfz124_1 := fz BK178 1; have hfz124_2 := fz BK178 2; have hfz124_3 := fz BK178 3; have hnb125 := NB179_180.out; have hnc125 := NB180_179.out; have hcz126_0 := cz0 BK179.out; have hfz126_0 := fz BK179 0; have p181 : 0 ≤ (a1 : Int) := of_decide_eq_true az; have q181 : a1 < (l0_3.length : Int) := of_decide_eq_true az; obtain ⟨ad181, A181_2, c181_2, A181_3, c181_3, A181_4, c181_4, e181, hx181_0, hx181_1, hx181_2, hx181_3, hx181_4, hl181_2, hi181_2, hl181_3, hi181_3, hl181_4, hi181_4⟩ := at_T38 HR0_3.out a1 p181 q181; cases e181; replace hx181_0 := hX HB hx181_0; replace hx181_1 := hX HB hx181_1; replace hx181_2 := hX HB hx181_2; replace hx181_3 := hX HB hx181_3; replace hx181_4 := hX HB hx181_4; have HR181_2 := Am hi181_2; have HC181_2 := Am hl181_2; clear hi181_2 hl181_2; have HR181_3 := Am hi181_3; have HC181_3 := Am hl181_3; clear hi181_3 hl181_3; have HR181_4 := Am hi181_4; have HC181_4 := Am hl181_4; clear hi181_4 hl181_4; replace p181 := eq_true p181; replace q181 := eq_true q181) | ((with_reducible refine gate_dst (N := 5) rfl ?_); refine bxe (N := 5) (cs := #[.string (⟨#[]⟩ : ByteArray), .int .i64 0, .slice none 0 0, .slice none 0 0, .slice none 0 0]) (t := 38) ?_; intro gb182 hg w127 hbox hb; have n0_ := Am (blk_below (kB BK178) hb); have n1_ := Am (blk_below (kB BK179) hb); have n2_ := Am (blk_below (kB BK180) hb); have n3_ := Am (below_step (bs) hb); have n4_ := Am (hbox); have n5_ := Am ((gE hg : w.heap.size ≤ gb182)); have n6_ := Am ((gE hg : w.heap.size ≤ gb182)); have n7_ := Am (nL hg BK178); have n8_ := Am (nG hg BK178); have n9_ := Am (nL hg BK179); have n10_ := Am (nG hg BK179); have n11_ := Am (nL hg BK180); have n12_ := Am (nG hg BK180); clear BK178; clear BK179; clear BK180; clear HB; have BK178 := n0_; have BK179 := n1_; have BK180 := n2_; have HB := n3_; have BK182 := n4_; have GW182 := n5_; have GE182 := n6_; have NB178_182 := n7_; have NB182_178 := n8_; have NB179_182 := n9_; have NB182_179 := n10_; have NB180_182 := n11_; have NB182_180 := n12_; clear n0_ n1_ n2_ n3_ n4_ n5_ n6_ n7_ n8_ n9_ n10_ n11_ n12_; clear hb hbox hg; have hnb128 := NB182_178.out; have hnc128 := NB178_182.out; have hnb129 := NB182_179.out; have hnc129 := NB179_182.out; have hnb130 := NB182_180.out; have hnc130 := NB180_182.out; have hcz131_0 := cz0 BK182.out; have hcz131_1 := cz1 BK182.out; have hcz131_2 := cz2 BK182.out; have hcz131_3 := cz3 BK182.out; have hcz131_4 := cz4 BK182.out; have hfz131_0 := fz BK182 0; have hfz131_1 := fz BK182 1; have hfz131_2 := fz BK182 2; have hfz131_3 := fz BK182 3; have hfz131_4 := fz BK182 4) | ((with_reducible refine gate_callee (f := 47) rfl ?_); refine goesL_ (some 21) rfl rfl Try.func47 (by kernel_rfl) rfl #[.string ((rd_T38 l0_3 a1).f0)] rfl aq ?_; (with_reducible refine (infix_Name.calls k ((rd_T38 l0_3 a1).f0) false _ A5.out).mono ?_); rintro e w' ⟨rfl, ⟨nd, rfl⟩⟩; refine ⟨_, rfl, ?_⟩) | (go_at_call 46; (with_reducible refine (rules_rule_1.calls 5 0 6 a1 ⟨gb179, 0, none⟩ t184 t185 t186 t187 _ ?side1 ?side2 A118.out).mono ?_); (case side1 => exact cz0 (g := gb179) (t := 3) (a := .int .i64 a1) (l := []) (kZ BK179)); (case side2 => exact blk_frozen (g := gb179) (t := 3) (cs := #[.int .i64 a1]) (kZ BK179) 0); rintro e w132 ⟨rfl, hb⟩; have n0_ := Am (blk_below (kZ BK178) hb); have n1_ := Am (blk_below (kZ BK179) hb); have n2_ := Am (blk_below (kZ BK180) hb); have n3_ := Am (blk_below (g := gb182) (o := .cells #[.string ((rd_T38 l0_3 a1).f0), .int .i64 ((rd_T38 l0_3 a1).f1), .slice A181_2 ((rd_T38 l0_3 a1).f2).length c181_2, .slice A181_3 ((rd_T38 l0_3 a1).f3).length c181_3, .slice A181_4 ((rd_T38 l0_3 a1).f4).length c181_4] 38 (0, 0)) (by (with_reducible repeat (first | refine blk_drewN ?_ _ | refine blk_drew ?_ | refine blk_alloc ?_ _)); refine blk_put (cs := #[.string ((rd_T38 l0_3 a1).f0), .int .i64 ((rd_T38 l0_3 a1).f1), .slice A181_2 ((rd_T38 l0_3 a1).f2).length c181_2, .slice A181_3 ((rd_T38 l0_3 a1).f3).length c181_3, .slice none 0 0]) ?_ 4 _ rfl; (with_reducible repeat (first | refine blk_drewN ?_ _ | refine blk_drew ?_ | refine blk_alloc ?_ _)); refine blk_put (cs := #[.string ((rd_T38 l0_3 a1).f0), .int .i64 ((rd_T38 l0_3 a1).f1), .slice A181_2 ((rd_T38 l0_3 a1).f2).length c181_2, .slice none 0 0, .slice none 0 0]) ?_ 3 _ rfl; (with_reducible repeat (first | refine blk_drewN ?_ _ | refine blk_drew ?_ | refine blk_alloc ?_ _)); refine blk_put (cs := #[.string ((rd_T38 l0_3 a1).f0), .int .i64 ((rd_T38 l0_3 a1).f1), .slice none 0 0, .slice none 0 0, .slice none 0 0]) ?_ 2 _ rfl; (with_reducible repeat (first | refine blk_drewN ?_ _ | refine blk_drew ?_ | refine blk_alloc ?_ _)); refine blk_put (cs := #[.string ((rd_T38 l0_3 a1).f0), .int .i64 0, .slice none 0 0, .slice none 0 0, .slice none 0 0]) ?_ 1 _ rfl; (with_reducible repeat (first | refine blk_drewN ?_ _ | refine blk_drew ?_ | refine blk_alloc ?_ _)); refine blk_put (cs := #[.string (⟨#[]⟩ : ByteArray), .int .i64 0, .slice none 0 0, .slice none 0 0, .slice none 0 0]) ?_ 0 _ rfl; (with_reducible repeat (first | refine blk_drewN ?_ _ | refine blk_drew ?_ | refine blk_alloc ?_ _)); exact BK182.out) hb); have n4_ := Am (below_step (bs) hb); clear BK178; clear BK179; clear BK180; clear BK182; clear HB; have BK178 := n0_; have BK179 := n1_; have BK180 := n2_; have BK182 := n3_; have HB := n4_; clear n0_ n1_ n2_ n3_ n4_; (try clear hb); (try clear hb2); (try clear hk); (try clear hi); have hcz133_0 := cz0 BK180.out; have hcz133_1 := cz1 BK180.out; have hcz133_2 := cz2 BK180.out; have hcz133_3 := cz3 BK180.out; have hfz133_0 := fz BK180 0; have hfz133_1 := fz BK180 1; have hfz133_2 := fz BK180 2; have hfz133_3 := fz BK180 3))
    refine bodyPost_ret (results_cell_row rfl _ _ gb180 30 #[.int .i64 t184, .int .i64 t185, .int .i64 t186, .int .i64 t187] (0, 0) _ rfl (by (with_reducible repeat (first | refine blk_drewN ?_ _ | refine blk_drew ?_ | refine blk_alloc ?_ _)); refine blk_put (cs := #[.int .i64 t184, .int .i64 t185, .int .i64 t186, .int .i64 0]) ?_ 3 _ rfl; (with_reducible repeat (first | refine blk_drewN ?_ _ | refine blk_drew ?_ | refine blk_alloc ?_ _)); refine blk_put (cs := #[.int .i64 t184, .int .i64 t185, .int .i64 0, .int .i64 0]) ?_ 2 _ rfl; (with_reducible repeat (first | refine blk_drewN ?_ _ | refine blk_drew ?_ | refine blk_alloc ?_ _)); refine blk_put (cs := #[.int .i64 t184, .int .i64 0, .int .i64 0, .int .i64 0]) ?_ 1 _ rfl; (with_reducible repeat (first | refine blk_drewN ?_ _ | refine blk_drew ?_ | refine blk_alloc ?_ _)); refine blk_put (cs := #[.int .i64 0, .int .i64 0, .int .i64 0, .int .i64 0]) ?_ 0 _ rfl; (with_reducible repeat (first | refine blk_drewN ?_ _ | refine blk_drew ?_ | refine blk_alloc ?_ _)); exact BK180.out) Try.underlying30 rfl (by kernel_rfl)) rfl ?_
    exact ⟨xq, bs⟩
  ·
   rw [if_neg c4] at H
   exact absurd H (by simp)
 ·
  rw [if_neg c3] at H
  exact absurd H (by simp)

end Go.Proofs.Ytdfhbmallnegfaa.PA
