-- Written by a program (wip/tools/gprint.py: a patched copy of the kit's print) and by hand, for this claim
import Derived.Test.YtdfhbmallnegfaaPAx0
import Derived.Test.YtdfhbmallnegfaaPAx10
import Derived.Test.YtdfhbmallnegfaaPAx13
namespace Go.Proofs.Ytdfhbmallnegfaa.PA
open Go.RowKit Go.Proofs.YtdfhbmallnegfaaW.PrintWords Go.Proofs.YtdfhbmallnegfaaW.PrintLast Go.Proofs.YtdfhbmallnegfaaW.PrintMore
attribute [local go_sem] max2_int min2_int max_two min_two max_three min_three max_four min_four   -- for this text's walks alone
set_option linter.unusedVariables false
set_option linter.unusedSimpArgs false

/-! ### surmiseref05_Check: function 11 -/
mutual
def surmiseref05_Check.j0 : Nat → Bool → List ByteArray → List ByteArray → List Int → List (S38) → Int → Int → Option (Int × Int × Int × Int)
 | 0, _, _, _, _, _, _, _ => none
 | k + 1, x20, x473000, x473001, x473002, x473003, x477000, x477001 => if x20 = true then (surmiseref05_Check.j1 k x473000 x473001 x473002 x473003 x477000 2) else (surmiseref05_Check.j1 k x473000 x473001 x473002 x473003 x477000 x477001)
def surmiseref05_Check.j1 : Nat → List ByteArray → List ByteArray → List Int → List (S38) → Int → Int → Option (Int × Int × Int × Int)
 | 0, _, _, _, _, _, _ => none
 | k + 1, x473000, x473001, x473002, x473003, x477000, x477001 => if x477001 = 0 then ((surmiseref05_Names.f k x473001 6).bind fun bt477 => (if bt477.2 = 0 then (if (x473002.length : Int) = (x473001.length : Int) then (surmiseref05_Check.l0 k 0 x473000 x473001 x473002 x473003) else (some (2, (-1), 3, 0))) else (some (bt477.2, (-1), 2, bt477.1)))) else (some (x477001, (-1), 1, x477000))
def surmiseref05_Check.l0 : Nat → Int → List ByteArray → List ByteArray → List Int → List (S38) → Option (Int × Int × Int × Int)
 | 0, _, _, _, _, _ => none
 | k + 1, x4, x473000, x473001, x473002, x473003 => if x4 < (x473002.length : Int) then (if 0 ≤ x4 then ((surmiseref03_Value.f (rd x473002 x4)).bind fun t480 => (if t480 = true then (surmiseref05_Check.l0 k (wrap64 (x4 + 1)) x473000 x473001 x473002 x473003) else (some (3, (-1), 3, x4)))) else (none)) else (if (x473003.length : Int) > 12 then (some (4, (-1), 4, 0)) else (surmiseref05_Check.l1 k 0 x473000 x473001 x473002 x473003))
def surmiseref05_Check.l1 : Nat → Int → List ByteArray → List ByteArray → List Int → List (S38) → Option (Int × Int × Int × Int)
 | 0, _, _, _, _, _ => none
 | k + 1, x5, x473000, x473001, x473002, x473003 => if x5 < (x473003.length : Int) then (if 0 ≤ x5 then ((surmiseref04_Name.f k ((rd_T38 x473003 x5).f0)).bind fun t483 => (if t483 = true then (surmiseref05_Check.l2 k x5 0 x473000 x473001 x473002 x473003 ((rd_T38 x473003 x5).f0) ((rd_T38 x473003 x5).f1) ((rd_T38 x473003 x5).f2) ((rd_T38 x473003 x5).f3) ((rd_T38 x473003 x5).f4)) else (some (6, x5, 5, 0)))) else (none)) else (some (0, 0, 0, 0))
def surmiseref05_Check.l2 : Nat → Int → Int → List ByteArray → List ByteArray → List Int → List (S38) → ByteArray → Int → List Int → List (S66) → List (S60) → Option (Int × Int × Int × Int)
 | 0, _, _, _, _, _, _, _, _, _, _, _ => none
 | k + 1, x5, x7, x473000, x473001, x473002, x473003, x483000, x483001, x483002, x483003, x483004 => if x7 < x5 then (if 0 ≤ x7 then (if x7 < (x473003.length : Int) then (if ((rd_T38 x473003 x7).f0).toList = x483000.toList then (some (9, x5, 5, 0)) else (surmiseref05_Check.l2 k x5 (wrap64 (x7 + 1)) x473000 x473001 x473002 x473003 x483000 x483001 x483002 x483003 x483004)) else (none)) else (none)) else (if x483001 < 0 then (surmiseref05_Check.j5 k x5 true x473000 x473001 x473002 x473003) else (surmiseref05_Check.j5 k x5 (decide (x483001 > 4)) x473000 x473001 x473002 x473003))
def surmiseref05_Check.j5 : Nat → Int → Bool → List ByteArray → List ByteArray → List Int → List (S38) → Option (Int × Int × Int × Int)
 | 0, _, _, _, _, _, _ => none
 | k + 1, x5, x111, x473000, x473001, x473002, x473003 => if x111 = true then (some (3, x5, 6, 0)) else ((surmiseref05_rule.f k x473000 x473001 x473002 x473003 x5).bind fun bt485 => (if bt485.1 = 0 then (surmiseref05_Check.l1 k (wrap64 (x5 + 1)) x473000 x473001 x473002 x473003) else (some (bt485.1, bt485.2.1, bt485.2.2.1, bt485.2.2.2))))
end
def surmiseref05_Check.f (k : Nat) (l0_0 : List ByteArray) (l0_1 : List ByteArray) (l0_2 : List Int) (l0_3 : List (S38)) : Option (Int × Int × Int × Int) := (surmiseref05_Names.f k l0_0 8).bind fun bt474 => (if bt474.2 = 0 then (surmiseref05_Check.j0 k ((l0_0.length : Int) == 0) l0_0 l0_1 l0_2 l0_3 bt474.1 bt474.2) else (surmiseref05_Check.j0 k false l0_0 l0_1 l0_2 l0_3 bt474.1 bt474.2))
theorem surmiseref05_Check.mono_l : ∀ k, (∀ y0 y1 y2 y3 y4 y5 y6, LeO (surmiseref05_Check.j0 k y0 y1 y2 y3 y4 y5 y6) (surmiseref05_Check.j0 (k + 1) y0 y1 y2 y3 y4 y5 y6)) ∧ (∀ y0 y1 y2 y3 y4 y5, LeO (surmiseref05_Check.j1 k y0 y1 y2 y3 y4 y5) (surmiseref05_Check.j1 (k + 1) y0 y1 y2 y3 y4 y5)) ∧ (∀ y0 y1 y2 y3 y4, LeO (surmiseref05_Check.l0 k y0 y1 y2 y3 y4) (surmiseref05_Check.l0 (k + 1) y0 y1 y2 y3 y4)) ∧ (∀ y0 y1 y2 y3 y4, LeO (surmiseref05_Check.l1 k y0 y1 y2 y3 y4) (surmiseref05_Check.l1 (k + 1) y0 y1 y2 y3 y4)) ∧ (∀ y0 y1 y2 y3 y4 y5 y6 y7 y8 y9 y10, LeO (surmiseref05_Check.l2 k y0 y1 y2 y3 y4 y5 y6 y7 y8 y9 y10) (surmiseref05_Check.l2 (k + 1) y0 y1 y2 y3 y4 y5 y6 y7 y8 y9 y10)) ∧ (∀ y0 y1 y2 y3 y4 y5, LeO (surmiseref05_Check.j5 k y0 y1 y2 y3 y4 y5) (surmiseref05_Check.j5 (k + 1) y0 y1 y2 y3 y4 y5))
 | 0 => ⟨fun _ _ _ _ _ _ _ r h => by simp [surmiseref05_Check.j0] at h, fun _ _ _ _ _ _ r h => by simp [surmiseref05_Check.j1] at h, fun _ _ _ _ _ r h => by simp [surmiseref05_Check.l0] at h, fun _ _ _ _ _ r h => by simp [surmiseref05_Check.l1] at h, fun _ _ _ _ _ _ _ _ _ _ _ r h => by simp [surmiseref05_Check.l2] at h, fun _ _ _ _ _ _ r h => by simp [surmiseref05_Check.j5] at h⟩
 | k + 1 => by
  obtain ⟨ih0, ih1, ih2, ih3, ih4, ih5⟩ := surmiseref05_Check.mono_l k
  refine ⟨?_, ?_, ?_, ?_, ?_, ?_⟩
  ·
   intro y0 y1 y2 y3 y4 y5 y6
   unfold surmiseref05_Check.j0
   repeat' first
   | (with_reducible exact ih0 _ _ _ _ _ _ _)
   | (with_reducible exact ih1 _ _ _ _ _ _)
   | (with_reducible exact ih2 _ _ _ _ _)
   | (with_reducible exact ih3 _ _ _ _ _)
   | (with_reducible exact ih4 _ _ _ _ _ _ _ _ _ _ _)
   | (with_reducible exact ih5 _ _ _ _ _ _)
   | (with_reducible exact surmiseref04_Name.mono _ _)
   | (with_reducible exact surmiseref05_Names.mono _ _ _)
   | (with_reducible exact surmiseref05_rule.mono _ _ _ _ _ _)
   | (with_reducible exact LeO.refl _)
   | (with_reducible exact LeO.none _)
   | (with_reducible refine LeO.ite ?_ ?_)
   | (with_reducible refine LeO.bind ?_ (fun _ => ?_))
   | exact ih0 _ _ _ _ _ _ _
   | exact ih1 _ _ _ _ _ _
   | exact ih2 _ _ _ _ _
   | exact ih3 _ _ _ _ _
   | exact ih4 _ _ _ _ _ _ _ _ _ _ _
   | exact ih5 _ _ _ _ _ _
   | exact surmiseref04_Name.mono _ _
   | exact surmiseref05_Names.mono _ _ _
   | exact surmiseref05_rule.mono _ _ _ _ _ _
   | exact LeO.none _
   | refine LeO.ite ?_ ?_
   | refine LeO.bind ?_ (fun _ => ?_)
  ·
   intro y0 y1 y2 y3 y4 y5
   unfold surmiseref05_Check.j1
   repeat' first
   | (with_reducible exact ih0 _ _ _ _ _ _ _)
   | (with_reducible exact ih1 _ _ _ _ _ _)
   | (with_reducible exact ih2 _ _ _ _ _)
   | (with_reducible exact ih3 _ _ _ _ _)
   | (with_reducible exact ih4 _ _ _ _ _ _ _ _ _ _ _)
   | (with_reducible exact ih5 _ _ _ _ _ _)
   | (with_reducible exact surmiseref04_Name.mono _ _)
   | (with_reducible exact surmiseref05_Names.mono _ _ _)
   | (with_reducible exact surmiseref05_rule.mono _ _ _ _ _ _)
   | (with_reducible exact LeO.refl _)
   | (with_reducible exact LeO.none _)
   | (with_reducible refine LeO.ite ?_ ?_)
   | (with_reducible refine LeO.bind ?_ (fun _ => ?_))
   | exact ih0 _ _ _ _ _ _ _
   | exact ih1 _ _ _ _ _ _
   | exact ih2 _ _ _ _ _
   | exact ih3 _ _ _ _ _
   | exact ih4 _ _ _ _ _ _ _ _ _ _ _
   | exact ih5 _ _ _ _ _ _
   | exact surmiseref04_Name.mono _ _
   | exact surmiseref05_Names.mono _ _ _
   | exact surmiseref05_rule.mono _ _ _ _ _ _
   | exact LeO.none _
   | refine LeO.ite ?_ ?_
   | refine LeO.bind ?_ (fun _ => ?_)
  ·
   intro y0 y1 y2 y3 y4
   unfold surmiseref05_Check.l0
   repeat' first
   | (with_reducible exact ih0 _ _ _ _ _ _ _)
   | (with_reducible exact ih1 _ _ _ _ _ _)
   | (with_reducible exact ih2 _ _ _ _ _)
   | (with_reducible exact ih3 _ _ _ _ _)
   | (with_reducible exact ih4 _ _ _ _ _ _ _ _ _ _ _)
   | (with_reducible exact ih5 _ _ _ _ _ _)
   | (with_reducible exact surmiseref04_Name.mono _ _)
   | (with_reducible exact surmiseref05_Names.mono _ _ _)
   | (with_reducible exact surmiseref05_rule.mono _ _ _ _ _ _)
   | (with_reducible exact LeO.refl _)
   | (with_reducible exact LeO.none _)
   | (with_reducible refine LeO.ite ?_ ?_)
   | (with_reducible refine LeO.bind ?_ (fun _ => ?_))
   | exact ih0 _ _ _ _ _ _ _
   | exact ih1 _ _ _ _ _ _
   | exact ih2 _ _ _ _ _
   | exact ih3 _ _ _ _ _
   | exact ih4 _ _ _ _ _ _ _ _ _ _ _
   | exact ih5 _ _ _ _ _ _
   | exact surmiseref04_Name.mono _ _
   | exact surmiseref05_Names.mono _ _ _
   | exact surmiseref05_rule.mono _ _ _ _ _ _
   | exact LeO.none _
   | refine LeO.ite ?_ ?_
   | refine LeO.bind ?_ (fun _ => ?_)
  ·
   intro y0 y1 y2 y3 y4
   unfold surmiseref05_Check.l1
   repeat' first
   | (with_reducible exact ih0 _ _ _ _ _ _ _)
   | (with_reducible exact ih1 _ _ _ _ _ _)
   | (with_reducible exact ih2 _ _ _ _ _)
   | (with_reducible exact ih3 _ _ _ _ _)
   | (with_reducible exact ih4 _ _ _ _ _ _ _ _ _ _ _)
   | (with_reducible exact ih5 _ _ _ _ _ _)
   | (with_reducible exact surmiseref04_Name.mono _ _)
   | (with_reducible exact surmiseref05_Names.mono _ _ _)
   | (with_reducible exact surmiseref05_rule.mono _ _ _ _ _ _)
   | (with_reducible exact LeO.refl _)
   | (with_reducible exact LeO.none _)
   | (with_reducible refine LeO.ite ?_ ?_)
   | (with_reducible refine LeO.bind ?_ (fun _ => ?_))
   | exact ih0 _ _ _ _ _ _ _
   | exact ih1 _ _ _ _ _ _
   | exact ih2 _ _ _ _ _
   | exact ih3 _ _ _ _ _
   | exact ih4 _ _ _ _ _ _ _ _ _ _ _
   | exact ih5 _ _ _ _ _ _
   | exact surmiseref04_Name.mono _ _
   | exact surmiseref05_Names.mono _ _ _
   | exact surmiseref05_rule.mono _ _ _ _ _ _
   | exact LeO.none _
   | refine LeO.ite ?_ ?_
   | refine LeO.bind ?_ (fun _ => ?_)
  ·
   intro y0 y1 y2 y3 y4 y5 y6 y7 y8 y9 y10
   unfold surmiseref05_Check.l2
   repeat' first
   | (with_reducible exact ih0 _ _ _ _ _ _ _)
   | (with_reducible exact ih1 _ _ _ _ _ _)
   | (with_reducible exact ih2 _ _ _ _ _)
   | (with_reducible exact ih3 _ _ _ _ _)
   | (with_reducible exact ih4 _ _ _ _ _ _ _ _ _ _ _)
   | (with_reducible exact ih5 _ _ _ _ _ _)
   | (with_reducible exact surmiseref04_Name.mono _ _)
   | (with_reducible exact surmiseref05_Names.mono _ _ _)
   | (with_reducible exact surmiseref05_rule.mono _ _ _ _ _ _)
   | (with_reducible exact LeO.refl _)
   | (with_reducible exact LeO.none _)
   | (with_reducible refine LeO.ite ?_ ?_)
   | (with_reducible refine LeO.bind ?_ (fun _ => ?_))
   | exact ih0 _ _ _ _ _ _ _
   | exact ih1 _ _ _ _ _ _
   | exact ih2 _ _ _ _ _
   | exact ih3 _ _ _ _ _
   | exact ih4 _ _ _ _ _ _ _ _ _ _ _
   | exact ih5 _ _ _ _ _ _
   | exact surmiseref04_Name.mono _ _
   | exact surmiseref05_Names.mono _ _ _
   | exact surmiseref05_rule.mono _ _ _ _ _ _
   | exact LeO.none _
   | refine LeO.ite ?_ ?_
   | refine LeO.bind ?_ (fun _ => ?_)
  ·
   intro y0 y1 y2 y3 y4 y5
   unfold surmiseref05_Check.j5
   repeat' first
   | (with_reducible exact ih0 _ _ _ _ _ _ _)
   | (with_reducible exact ih1 _ _ _ _ _ _)
   | (with_reducible exact ih2 _ _ _ _ _)
   | (with_reducible exact ih3 _ _ _ _ _)
   | (with_reducible exact ih4 _ _ _ _ _ _ _ _ _ _ _)
   | (with_reducible exact ih5 _ _ _ _ _ _)
   | (with_reducible exact surmiseref04_Name.mono _ _)
   | (with_reducible exact surmiseref05_Names.mono _ _ _)
   | (with_reducible exact surmiseref05_rule.mono _ _ _ _ _ _)
   | (with_reducible exact LeO.refl _)
   | (with_reducible exact LeO.none _)
   | (with_reducible refine LeO.ite ?_ ?_)
   | (with_reducible refine LeO.bind ?_ (fun _ => ?_))
   | exact ih0 _ _ _ _ _ _ _
   | exact ih1 _ _ _ _ _ _
   | exact ih2 _ _ _ _ _
   | exact ih3 _ _ _ _ _
   | exact ih4 _ _ _ _ _ _ _ _ _ _ _
   | exact ih5 _ _ _ _ _ _
   | exact surmiseref04_Name.mono _ _
   | exact surmiseref05_Names.mono _ _ _
   | exact surmiseref05_rule.mono _ _ _ _ _ _
   | exact LeO.none _
   | refine LeO.ite ?_ ?_
   | refine LeO.bind ?_ (fun _ => ?_)
theorem surmiseref05_Check.mono : ∀ a0 a1 a2 a3 k, LeO (surmiseref05_Check.f k a0 a1 a2 a3) (surmiseref05_Check.f (k + 1) a0 a1 a2 a3) := by
 intro a0 a1 a2 a3 k
 obtain ⟨ih0, ih1, ih2, ih3, ih4, ih5⟩ := surmiseref05_Check.mono_l k
 unfold surmiseref05_Check.f
 repeat' first
   | (with_reducible exact ih0 _ _ _ _ _ _ _)
   | (with_reducible exact ih1 _ _ _ _ _ _)
   | (with_reducible exact ih2 _ _ _ _ _)
   | (with_reducible exact ih3 _ _ _ _ _)
   | (with_reducible exact ih4 _ _ _ _ _ _ _ _ _ _ _)
   | (with_reducible exact ih5 _ _ _ _ _ _)
   | (with_reducible exact surmiseref04_Name.mono _ _)
   | (with_reducible exact surmiseref05_Names.mono _ _ _)
   | (with_reducible exact surmiseref05_rule.mono _ _ _ _ _ _)
   | (with_reducible exact LeO.refl _)
   | (with_reducible exact LeO.none _)
   | (with_reducible refine LeO.ite ?_ ?_)
   | (with_reducible refine LeO.bind ?_ (fun _ => ?_))
   | exact ih0 _ _ _ _ _ _ _
   | exact ih1 _ _ _ _ _ _
   | exact ih2 _ _ _ _ _
   | exact ih3 _ _ _ _ _
   | exact ih4 _ _ _ _ _ _ _ _ _ _ _
   | exact ih5 _ _ _ _ _ _
   | exact surmiseref04_Name.mono _ _
   | exact surmiseref05_Names.mono _ _ _
   | exact surmiseref05_rule.mono _ _ _ _ _ _
   | exact LeO.none _
   | refine LeO.ite ?_ ?_
   | refine LeO.bind ?_ (fun _ => ?_)
set_option maxHeartbeats 8000000 in
set_option maxRecDepth 100000 in
theorem surmiseref05_Check.calls (k : Nat) (A0_0 : Option Addr) (c0_0 : Nat) (l0_0 : List ByteArray) (A0_1 : Option Addr) (c0_1 : Nat) (l0_1 : List ByteArray) (A0_2 : Option Addr) (c0_2 : Nat) (l0_2 : List Int) (A0_3 : Option Addr) (c0_3 : Nat) (l0_3 : List (S38)) (r1 : Int) (r2 : Int) (r3 : Int) (r4 : Int) (w : World) (hr0_0 : Kd.C Kd.string w A0_0 l0_0.length l0_0) (hc0_0 : l0_0.length ≤ c0_0) (hr0_1 : Kd.C Kd.string w A0_1 l0_1.length l0_1) (hc0_1 : l0_1.length ≤ c0_1) (hr0_2 : Kd.C (Kd.int .i64) w A0_2 l0_2.length l0_2) (hc0_2 : l0_2.length ≤ c0_2) (hr0_3 : Kd.C k38 w A0_3 l0_3.length l0_3) (hc0_3 : l0_3.length ≤ c0_3) (h : surmiseref05_Check.f k l0_0 l0_1 l0_2 l0_3 = some (r1, r2, r3, r4)) :
  Calls Try.prog 11 #[.agg #[.slice A0_0 l0_0.length c0_0, .slice A0_1 l0_1.length c0_1, .slice A0_2 l0_2.length c0_2, .slice A0_3 l0_3.length c0_3]] w fun e w' => e = .returned (.agg #[.int .i64 r1, .int .i64 r2, .int .i64 r3, .int .i64 r4]) ∧ Below w.heap.size w w' := by
 have hu26 := Try.underlying26
 have hu30 := Try.underlying30
 have hu54 := Try.underlying54
 have hu38 := Try.underlying38
 have HR0_0 := Am hr0_0
 have HC0_0 := Am hc0_0
 clear hr0_0 hc0_0
 have HR0_1 := Am hr0_1
 have HC0_1 := Am hc0_1
 clear hr0_1 hc0_1
 have HR0_2 := Am hr0_2
 have HC0_2 := Am hc0_2
 clear hr0_2 hc0_2
 have HR0_3 := Am hr0_3
 have HC0_3 := Am hc0_3
 clear hr0_3 hc0_3
 have HB := Am (Below.refl w.heap.size w)
 have H : ((surmiseref05_Names.f k l0_0 8).bind fun bt474 => (if bt474.2 = 0 then (surmiseref05_Check.j0 k ((l0_0.length : Int) == 0) l0_0 l0_1 l0_2 l0_3 bt474.1 bt474.2) else (surmiseref05_Check.j0 k false l0_0 l0_1 l0_2 l0_3 bt474.1 bt474.2))) = some (r1, r2, r3, r4) := h
 clear h
 obtain ⟨⟨t474, t475⟩, A20, H⟩ := Option.bind_eq_some_iff.mp H
 replace H : (if t475 = 0 then (surmiseref05_Check.j0 k ((l0_0.length : Int) == 0) l0_0 l0_1 l0_2 l0_3 t474 t475) else (surmiseref05_Check.j0 k false l0_0 l0_1 l0_2 l0_3 t474 t475)) = some (r1, r2, r3, r4) := H
 have A2 := Am A20
 clear A20
 have HC3 := Am H
 clear H
 go_enter Try.func11, Try.ntmps11
 go_upto_region 2 with (first | ((with_reducible refine gate_dst (N := 1) rfl ?_); (try (refine gate_guard (by rfl) ?_; dsimp only)); refine bxe (N := 1) (cs := #[.slice A0_0 l0_0.length c0_0, .slice A0_1 l0_1.length c0_1, .slice A0_2 l0_2.length c0_2, .slice A0_3 l0_3.length c0_3]) (t := 26) ?_; intro gb472 hg w4 hbox hb; have n0_ := Am (below_step (bl) hb); have n1_ := Am (hbox); have n2_ := Am ((gE hg : w.heap.size ≤ gb472)); have n3_ := Am ((gE hg : w.heap.size ≤ gb472)); clear HB; have HB := n0_; have BK472 := n1_; have GW472 := n2_; have GE472 := n3_; clear n0_ n1_ n2_ n3_; clear hb hbox hg) | ((with_reducible refine gate_dst (N := 2) rfl ?_); (try (refine gate_guard (by rfl) ?_; dsimp only)); refine bxe (N := 2) (cs := #[.int .i64 0, .int .i64 0, .int .i64 0, .int .i64 0]) (t := 30) ?_; intro gb473 hg w5 hbox hb; have n0_ := Am (blk_below (kB BK472) hb); have n1_ := Am (below_step (bs) hb); have n2_ := Am (hbox); have n3_ := Am ((gE hg : w.heap.size ≤ gb473)); have n4_ := Am ((gE hg : w.heap.size ≤ gb473)); have n5_ := Am (nL hg BK472); have n6_ := Am (nG hg BK472); clear BK472; clear HB; have BK472 := n0_; have HB := n1_; have BK473 := n2_; have GW473 := n3_; have GE473 := n4_; have NB472_473 := n5_; have NB473_472 := n6_; clear n0_ n1_ n2_ n3_ n4_ n5_ n6_; clear hb hbox hg; have hnb6 := NB472_473.out; have hnc6 := NB473_472.out; have hcz7_0 := cz0 BK472.out; have hcz7_1 := cz1 BK472.out; have hcz7_2 := cz2 BK472.out; have hcz7_3 := cz3 BK472.out; have hfz7_0 := fz BK472 0; have hfz7_1 := fz BK472 1; have hfz7_2 := fz BK472 2; have hfz7_3 := fz BK472 3) | (go_at_call 30; (with_reducible refine (surmiseref05_Names.calls k _ _ l0_0 8 t474 t475 _ ?side1 ?side2 A2.out).mono ?_); (case side1 => exact kC HR0_0); (case side2 => exact HC0_0.out); rintro e w8 ⟨rfl, hb⟩; have n0_ := Am (blk_below (kB BK472) hb); have n1_ := Am (blk_below (kB BK473) hb); have n2_ := Am (below_step (bs) hb); clear BK472; clear BK473; clear HB; have BK472 := n0_; have BK473 := n1_; have HB := n2_; clear n0_ n1_ n2_; (try clear hb); (try clear hb2); (try clear hk); (try clear hi)) | ((with_reducible refine gate_dst (N := 3) rfl ?_); (try (refine gate_guard (by rfl) ?_; dsimp only)); refine bxe (N := 3) (cs := #[.int .i64 0, .int .i64 0]) (t := 54) ?_; intro gb476 hg w9 hbox hb; have n0_ := Am (blk_below (kB BK472) hb); have n1_ := Am (blk_below (kB BK473) hb); have n2_ := Am (below_step (bs) hb); have n3_ := Am (hbox); have n4_ := Am ((gE hg : w.heap.size ≤ gb476)); have n5_ := Am ((gE hg : w.heap.size ≤ gb476)); have n6_ := Am (nL hg BK472); have n7_ := Am (nG hg BK472); have n8_ := Am (nL hg BK473); have n9_ := Am (nG hg BK473); clear BK472; clear BK473; clear HB; have BK472 := n0_; have BK473 := n1_; have HB := n2_; have BK476 := n3_; have GW476 := n4_; have GE476 := n5_; have NB472_476 := n6_; have NB476_472 := n7_; have NB473_476 := n8_; have NB476_473 := n9_; clear n0_ n1_ n2_ n3_ n4_ n5_ n6_ n7_ n8_ n9_; clear hb hbox hg; have hnb10 := NB476_472.out; have hnc10 := NB472_476.out; have hnb11 := NB476_473.out; have hnc11 := NB473_476.out; have hcz12_0 := cz0 BK476.out; have hcz12_1 := cz1 BK476.out; have hfz12_0 := fz BK476 0; have hfz12_1 := fz BK476 1))
 repeat (go_quiet (first | ((with_reducible refine gate_dst (N := 1) rfl ?_); (try (refine gate_guard (by rfl) ?_; dsimp only)); refine bxe (N := 1) (cs := #[.slice A0_0 l0_0.length c0_0, .slice A0_1 l0_1.length c0_1, .slice A0_2 l0_2.length c0_2, .slice A0_3 l0_3.length c0_3]) (t := 26) ?_; intro gb472 hg w4 hbox hb; have n0_ := Am (below_step (bl) hb); have n1_ := Am (hbox); have n2_ := Am ((gE hg : w.heap.size ≤ gb472)); have n3_ := Am ((gE hg : w.heap.size ≤ gb472)); clear HB; have HB := n0_; have BK472 := n1_; have GW472 := n2_; have GE472 := n3_; clear n0_ n1_ n2_ n3_; clear hb hbox hg) | ((with_reducible refine gate_dst (N := 2) rfl ?_); (try (refine gate_guard (by rfl) ?_; dsimp only)); refine bxe (N := 2) (cs := #[.int .i64 0, .int .i64 0, .int .i64 0, .int .i64 0]) (t := 30) ?_; intro gb473 hg w5 hbox hb; have n0_ := Am (blk_below (kB BK472) hb); have n1_ := Am (below_step (bs) hb); have n2_ := Am (hbox); have n3_ := Am ((gE hg : w.heap.size ≤ gb473)); have n4_ := Am ((gE hg : w.heap.size ≤ gb473)); have n5_ := Am (nL hg BK472); have n6_ := Am (nG hg BK472); clear BK472; clear HB; have BK472 := n0_; have HB := n1_; have BK473 := n2_; have GW473 := n3_; have GE473 := n4_; have NB472_473 := n5_; have NB473_472 := n6_; clear n0_ n1_ n2_ n3_ n4_ n5_ n6_; clear hb hbox hg; have hnb6 := NB472_473.out; have hnc6 := NB473_472.out; have hcz7_0 := cz0 BK472.out; have hcz7_1 := cz1 BK472.out; have hcz7_2 := cz2 BK472.out; have hcz7_3 := cz3 BK472.out; have hfz7_0 := fz BK472 0; have hfz7_1 := fz BK472 1; have hfz7_2 := fz BK472 2; have hfz7_3 := fz BK472 3) | (go_at_call 30; (with_reducible refine (surmiseref05_Names.calls k _ _ l0_0 8 t474 t475 _ ?side1 ?side2 A2.out).mono ?_); (case side1 => exact kC HR0_0); (case side2 => exact HC0_0.out); rintro e w8 ⟨rfl, hb⟩; have n0_ := Am (blk_below (kB BK472) hb); have n1_ := Am (blk_below (kB BK473) hb); have n2_ := Am (below_step (bs) hb); clear BK472; clear BK473; clear HB; have BK472 := n0_; have BK473 := n1_; have HB := n2_; clear n0_ n1_ n2_; (try clear hb); (try clear hb2); (try clear hk); (try clear hi)) | ((with_reducible refine gate_dst (N := 3) rfl ?_); (try (refine gate_guard (by rfl) ?_; dsimp only)); refine bxe (N := 3) (cs := #[.int .i64 0, .int .i64 0]) (t := 54) ?_; intro gb476 hg w9 hbox hb; have n0_ := Am (blk_below (kB BK472) hb); have n1_ := Am (blk_below (kB BK473) hb); have n2_ := Am (below_step (bs) hb); have n3_ := Am (hbox); have n4_ := Am ((gE hg : w.heap.size ≤ gb476)); have n5_ := Am ((gE hg : w.heap.size ≤ gb476)); have n6_ := Am (nL hg BK472); have n7_ := Am (nG hg BK472); have n8_ := Am (nL hg BK473); have n9_ := Am (nG hg BK473); clear BK472; clear BK473; clear HB; have BK472 := n0_; have BK473 := n1_; have HB := n2_; have BK476 := n3_; have GW476 := n4_; have GE476 := n5_; have NB472_476 := n6_; have NB476_472 := n7_; have NB473_476 := n8_; have NB476_473 := n9_; clear n0_ n1_ n2_ n3_ n4_ n5_ n6_ n7_ n8_ n9_; clear hb hbox hg; have hnb10 := NB476_472.out; have hnc10 := NB472_476.out; have hnb11 := NB476_473.out; have hnc11 := NB473_476.out; have hcz12_0 := cz0 BK476.out; have hcz12_1 := cz1 BK476.out; have hfz12_0 := fz BK476 0; have hfz12_1 := fz BK476 1)); go_upto_region 2 with (first | ((with_reducible refine gate_dst (N := 1) rfl ?_); (try (refine gate_guard (by rfl) ?_; dsimp only)); refine bxe (N := 1) (cs := #[.slice A0_0 l0_0.length c0_0, .slice A0_1 l0_1.length c0_1, .slice A0_2 l0_2.length c0_2, .slice A0_3 l0_3.length c0_3]) (t := 26) ?_; intro gb472 hg w4 hbox hb; have n0_ := Am (below_step (bl) hb); have n1_ := Am (hbox); have n2_ := Am ((gE hg : w.heap.size ≤ gb472)); have n3_ := Am ((gE hg : w.heap.size ≤ gb472)); clear HB; have HB := n0_; have BK472 := n1_; have GW472 := n2_; have GE472 := n3_; clear n0_ n1_ n2_ n3_; clear hb hbox hg) | ((with_reducible refine gate_dst (N := 2) rfl ?_); (try (refine gate_guard (by rfl) ?_; dsimp only)); refine bxe (N := 2) (cs := #[.int .i64 0, .int .i64 0, .int .i64 0, .int .i64 0]) (t := 30) ?_; intro gb473 hg w5 hbox hb; have n0_ := Am (blk_below (kB BK472) hb); have n1_ := Am (below_step (bs) hb); have n2_ := Am (hbox); have n3_ := Am ((gE hg : w.heap.size ≤ gb473)); have n4_ := Am ((gE hg : w.heap.size ≤ gb473)); have n5_ := Am (nL hg BK472); have n6_ := Am (nG hg BK472); clear BK472; clear HB; have BK472 := n0_; have HB := n1_; have BK473 := n2_; have GW473 := n3_; have GE473 := n4_; have NB472_473 := n5_; have NB473_472 := n6_; clear n0_ n1_ n2_ n3_ n4_ n5_ n6_; clear hb hbox hg; have hnb6 := NB472_473.out; have hnc6 := NB473_472.out; have hcz7_0 := cz0 BK472.out; have hcz7_1 := cz1 BK472.out; have hcz7_2 := cz2 BK472.out; have hcz7_3 := cz3 BK472.out; have hfz7_0 := fz BK472 0; have hfz7_1 := fz BK472 1; have hfz7_2 := fz BK472 2; have hfz7_3 := fz BK472 3) | (go_at_call 30; (with_reducible refine (surmiseref05_Names.calls k _ _ l0_0 8 t474 t475 _ ?side1 ?side2 A2.out).mono ?_); (case side1 => exact kC HR0_0); (case side2 => exact HC0_0.out); rintro e w8 ⟨rfl, hb⟩; have n0_ := Am (blk_below (kB BK472) hb); have n1_ := Am (blk_below (kB BK473) hb); have n2_ := Am (below_step (bs) hb); clear BK472; clear BK473; clear HB; have BK472 := n0_; have BK473 := n1_; have HB := n2_; clear n0_ n1_ n2_; (try clear hb); (try clear hb2); (try clear hk); (try clear hi)) | ((with_reducible refine gate_dst (N := 3) rfl ?_); (try (refine gate_guard (by rfl) ?_; dsimp only)); refine bxe (N := 3) (cs := #[.int .i64 0, .int .i64 0]) (t := 54) ?_; intro gb476 hg w9 hbox hb; have n0_ := Am (blk_below (kB BK472) hb); have n1_ := Am (blk_below (kB BK473) hb); have n2_ := Am (below_step (bs) hb); have n3_ := Am (hbox); have n4_ := Am ((gE hg : w.heap.size ≤ gb476)); have n5_ := Am ((gE hg : w.heap.size ≤ gb476)); have n6_ := Am (nL hg BK472); have n7_ := Am (nG hg BK472); have n8_ := Am (nL hg BK473); have n9_ := Am (nG hg BK473); clear BK472; clear BK473; clear HB; have BK472 := n0_; have BK473 := n1_; have HB := n2_; have BK476 := n3_; have GW476 := n4_; have GE476 := n5_; have NB472_476 := n6_; have NB476_472 := n7_; have NB473_476 := n8_; have NB476_473 := n9_; clear n0_ n1_ n2_ n3_ n4_ n5_ n6_ n7_ n8_ n9_; clear hb hbox hg; have hnb10 := NB476_472.out; have hnc10 := NB472_476.out; have hnb11 := NB476_473.out; have hnc11 := NB473_476.out; have hcz12_0 := cz0 BK476.out; have hcz12_1 := cz1 BK476.out; have hfz12_0 := fz BK476 0; have hfz12_1 := fz BK476 1)))
 (try simp only [Act.put, List.setIfInBounds_toArray, List.set_cons_zero, List.set_cons_succ])
 go_cut [20] (fun v20 wc => ∃ (kq : Nat) (x20_2 : Bool), v20 = .bool x20_2 ∧ Aside0 (surmiseref05_Check.j0 kq x20_2 l0_0 l0_1 l0_2 l0_3 t474 t475 = some (r1, r2, r3, r4)) ∧ Aside0 (kq ≤ k) ∧ Aside0 (wc.heap[gb472]? = some (.cells #[(.slice A0_0 l0_0.length c0_0), (.slice A0_1 l0_1.length c0_1), (.slice A0_2 l0_2.length c0_2), (.slice A0_3 l0_3.length c0_3)] 26 (0, 0))) ∧ Aside0 (wc.heap[gb473]? = some (.cells #[.int .i64 0, .int .i64 0, .int .i64 0, .int .i64 0] 30 (0, 0))) ∧ Aside0 (wc.heap[gb476]? = some (.cells #[.int .i64 t474, .int .i64 t475] 54 (0, 0))) ∧ Aside0 (Below w.heap.size w wc))
 case first =>
  have H := HC3.out
  clear HC3
  by_cases c13 : t475 = 0
  ·
   rw [if_pos c13] at H
   have c13b0 : (t475 == 0) = true := beq_iff_eq.mpr c13
   have c13b1 : (t475 != 0) = false := bne_eq_false_iff_eq.mpr c13
   clear c13
   (first | rw [c13b0] | (simp only [i64_w, i32_w]; rw [c13b0]) | skip)
   have H' := Am H
   clear H
   have hnb14 := NB476_472.out
   have hnc14 := NB472_476.out
   have hnb15 := NB476_473.out
   have hnc15 := NB473_476.out
   have hcz16_0 := cz0 BK476.out
   have hcz16_1 := cz1 BK476.out
   have hfz16_0 := fz BK476 0
   have hfz16_1 := fz BK476 1
   have hnb17 := NB472_473.out
   have hnc17 := NB473_472.out
   have hcz18_0 := cz0 BK472.out
   have hcz18_1 := cz1 BK472.out
   have hcz18_2 := cz2 BK472.out
   have hcz18_3 := cz3 BK472.out
   have hfz18_0 := fz BK472 0
   have hfz18_1 := fz BK472 1
   have hfz18_2 := fz BK472 2
   have hfz18_3 := fz BK472 3
   go_wp2
   repeat (go_quiet (fail); try go_wp2)
   go_meet
   case rel => exact ⟨_, (((l0_0.length : Int) == 0)), rq, H', ⟨by first | omega | exact Nat.le_refl _⟩, ⟨kZ BK472⟩, ⟨kZ BK473⟩, ⟨by (with_reducible repeat (first | refine blk_drewN ?_ _ | refine blk_drew ?_ | refine blk_alloc ?_ _)); refine blk_put (cs := #[.int .i64 t474, .int .i64 0]) ?_ 1 _ rfl; (with_reducible repeat (first | refine blk_drewN ?_ _ | refine blk_drew ?_ | refine blk_alloc ?_ _)); refine blk_put (cs := #[.int .i64 0, .int .i64 0]) ?_ 0 _ rfl; (with_reducible repeat (first | refine blk_drewN ?_ _ | refine blk_drew ?_ | refine blk_alloc ?_ _)); exact BK476.out⟩, ⟨bs⟩⟩
  ·
   rw [if_neg c13] at H
   have c13b0 : (t475 == 0) = false := beq_eq_false_iff_ne.mpr c13
   have c13b1 : (t475 != 0) = true := bne_iff_ne.mpr c13
   (first | rw [c13b0] | (simp only [i64_w, i32_w]; rw [c13b0]) | skip)
   have H' := Am H
   clear H
   have hnb19 := NB476_472.out
   have hnc19 := NB472_476.out
   have hnb20 := NB476_473.out
   have hnc20 := NB473_476.out
   have hcz21_0 := cz0 BK476.out
   have hcz21_1 := cz1 BK476.out
   have hfz21_0 := fz BK476 0
   have hfz21_1 := fz BK476 1
   go_wp2
   repeat (go_quiet (fail); try go_wp2)
   go_meet
   case rel => exact ⟨_, (false), rq, H', ⟨by first | omega | exact Nat.le_refl _⟩, ⟨kZ BK472⟩, ⟨kZ BK473⟩, ⟨by (with_reducible repeat (first | refine blk_drewN ?_ _ | refine blk_drew ?_ | refine blk_alloc ?_ _)); refine blk_put (cs := #[.int .i64 t474, .int .i64 0]) ?_ 1 _ rfl; (with_reducible repeat (first | refine blk_drewN ?_ _ | refine blk_drew ?_ | refine blk_alloc ?_ _)); refine blk_put (cs := #[.int .i64 0, .int .i64 0]) ?_ 0 _ rfl; (with_reducible repeat (first | refine blk_drewN ?_ _ | refine blk_drew ?_ | refine blk_alloc ?_ _)); exact BK476.out⟩, ⟨bs⟩⟩
 case rest =>
  clear HC3
  try clear c1
  try clear c2
  try clear p2
  try clear c6
  try clear c10
  try clear c11
  try clear c13
  try clear c13b0
  try clear c13b1
  try clear c14
  try clear c15
  try clear c17
  try clear c19
  try clear c20
  try clear hcz12_0
  try clear hcz12_1
  try clear hcz16_0
  try clear hcz16_1
  try clear hcz18_0
  try clear hcz18_1
  try clear hcz18_2
  try clear hcz18_3
  try clear hcz21_0
  try clear hcz21_1
  try clear hcz7_0
  try clear hcz7_1
  try clear hcz7_2
  try clear hcz7_3
  try clear hfz12_0
  try clear hfz12_1
  try clear hfz16_0
  try clear hfz16_1
  try clear hfz18_0
  try clear hfz18_1
  try clear hfz18_2
  try clear hfz18_3
  try clear hfz21_0
  try clear hfz21_1
  try clear hfz7_0
  try clear hfz7_1
  try clear hfz7_2
  try clear hfz7_3
  obtain ⟨kq, x20_2, rfl, HA, HJ2, BK472, BK473, BK476, HB⟩ := hcut
  cases kq with
  | zero => exact absurd HA.out (by simp [surmiseref05_Check.j0])
  | succ kj2 =>
   have H := HA.out
   clear HA
   simp only [surmiseref05_Check.j0] at H
   have HC22 := Am H
   clear H
   go_upto_if 20 with (fail)
   repeat (go_quiet (fail); go_upto_if 20 with (fail))
   go_cut [] (fun wc => ∃ (kq : Nat) (x477001_21 : Int), Aside0 (surmiseref05_Check.j1 kq l0_0 l0_1 l0_2 l0_3 t474 x477001_21 = some (r1, r2, r3, r4)) ∧ Aside0 (kq ≤ kj2) ∧ Aside0 (wc.heap[gb472]? = some (.cells #[(.slice A0_0 l0_0.length c0_0), (.slice A0_1 l0_1.length c0_1), (.slice A0_2 l0_2.length c0_2), (.slice A0_3 l0_3.length c0_3)] 26 (0, 0))) ∧ Aside0 (wc.heap[gb473]? = some (.cells #[.int .i64 0, .int .i64 0, .int .i64 0, .int .i64 0] 30 (0, 0))) ∧ Aside0 (wc.heap[gb476]? = some (.cells #[.int .i64 t474, .int .i64 x477001_21] 54 (0, 0))) ∧ Aside0 (Below w.heap.size w wc))
   case first =>
    have H := HC22.out
    clear HC22
    by_cases c23 : x20_2 = true
    ·
     subst c23
     have H1 : (surmiseref05_Check.j1 kj2 l0_0 l0_1 l0_2 l0_3 t474 2) = some (r1, r2, r3, r4) := by rw [if_pos rfl] at H; exact H
     clear H
     have H := H1
     clear H1
     have H' := Am H
     clear H
     have hnb24 := NB476_472.out
     have hnc24 := NB472_476.out
     have hnb25 := NB476_473.out
     have hnc25 := NB473_476.out
     have hcz26_0 := cz0 BK476.out
     have hcz26_1 := cz1 BK476.out
     have hfz26_0 := fz BK476 0
     have hfz26_1 := fz BK476 1
     go_wp2
     repeat (go_quiet (fail); try go_wp2)
     go_meet
     case rel => exact ⟨_, (2), H', ⟨by have := HJ2.out; first | omega | exact Nat.le_refl _⟩, ⟨kZ BK472⟩, ⟨kZ BK473⟩, ⟨by (with_reducible repeat (first | refine blk_drewN ?_ _ | refine blk_drew ?_ | refine blk_alloc ?_ _)); refine blk_put (cs := #[.int .i64 t474, .int .i64 t475]) ?_ 1 _ rfl; (with_reducible repeat (first | refine blk_drewN ?_ _ | refine blk_drew ?_ | refine blk_alloc ?_ _)); exact BK476.out⟩, ⟨bs⟩⟩
    ·
     replace c23 := Bool.eq_false_iff.mpr c23
     subst c23
     have H1 : (surmiseref05_Check.j1 kj2 l0_0 l0_1 l0_2 l0_3 t474 t475) = some (r1, r2, r3, r4) := by rw [if_neg (show ¬ (false = true) by decide)] at H; exact H
     clear H
     have H := H1
     clear H1
     have H' := Am H
     clear H
     go_wp2
     repeat (go_quiet (fail); try go_wp2)
     go_meet
     case rel => exact ⟨_, (t475), H', ⟨by have := HJ2.out; first | omega | exact Nat.le_refl _⟩, ⟨kB BK472⟩, ⟨kB BK473⟩, ⟨kB BK476⟩, ⟨bs⟩⟩
   case rest =>
    clear HC22
    try clear c1
    try clear c2
    try clear p2
    try clear c6
    try clear c10
    try clear c11
    try clear c13
    try clear c13b0
    try clear c13b1
    try clear c14
    try clear c15
    try clear c17
    try clear c19
    try clear c20
    try clear c23
    try clear c24
    try clear c25
    try clear hcz12_0
    try clear hcz12_1
    try clear hcz16_0
    try clear hcz16_1
    try clear hcz18_0
    try clear hcz18_1
    try clear hcz18_2
    try clear hcz18_3
    try clear hcz21_0
    try clear hcz21_1
    try clear hcz26_0
    try clear hcz26_1
    try clear hcz7_0
    try clear hcz7_1
    try clear hcz7_2
    try clear hcz7_3
    try clear hfz12_0
    try clear hfz12_1
    try clear hfz16_0
    try clear hfz16_1
    try clear hfz18_0
    try clear hfz18_1
    try clear hfz18_2
    try clear hfz18_3
    try clear hfz21_0
    try clear hfz21_1
    try clear hfz26_0
    try clear hfz26_1
    try clear hfz7_0
    try clear hfz7_1
    try clear hfz7_2
    try clear hfz7_3
    try clear p2
    obtain ⟨kq, x477001_21, HA, HJ21, BK472, BK473, BK476, HB⟩ := hcut
    cases kq with
    | zero => exact absurd HA.out (by simp [surmiseref05_Check.j1])
    | succ kj21 =>
     have H := HA.out
     clear HA
     simp only [surmiseref05_Check.j1] at H
     by_cases c27 : x477001_21 = 0
     ·
      rw [if_pos c27] at H
      have c27b0 : (x477001_21 == 0) = true := beq_iff_eq.mpr c27
      have c27b1 : (x477001_21 != 0) = false := bne_eq_false_iff_eq.mpr c27
      clear c27
      obtain ⟨⟨t477, t478⟩, A280, H⟩ := Option.bind_eq_some_iff.mp H
      replace H : (if t478 = 0 then (if (l0_2.length : Int) = (l0_1.length : Int) then (surmiseref05_Check.l0 kj21 0 l0_0 l0_1 l0_2 l0_3) else (some (2, (-1), 3, 0))) else (some (t478, (-1), 2, t477))) = some (r1, r2, r3, r4) := H
      have A28 := Am A280
      clear A280
      by_cases c29 : t478 = 0
      ·
       rw [if_pos c29] at H
       have c29b0 : (t478 == 0) = true := beq_iff_eq.mpr c29
       have c29b1 : (t478 != 0) = false := bne_eq_false_iff_eq.mpr c29
       clear c29
       by_cases c30 : (l0_2.length : Int) = (l0_1.length : Int)
       ·
        rw [if_pos c30] at H
        have c30b0 : ((l0_2.length : Int) == (l0_1.length : Int)) = true := beq_iff_eq.mpr c30
        have c30b1 : ((l0_2.length : Int) != (l0_1.length : Int)) = false := bne_eq_false_iff_eq.mpr c30
        have c30b2 : (l0_2.length == l0_1.length) = true := by first | simpa using c30 | (simp at c30 ⊢; omega)
        clear c30
        have H' := Am H
        clear H
        have hnb31 := NB476_472.out
        have hnc31 := NB472_476.out
        have hnb32 := NB476_473.out
        have hnc32 := NB473_476.out
        have hcz33_0 := cz0 BK476.out
        have hcz33_1 := cz1 BK476.out
        have hfz33_0 := fz BK476 0
        have hfz33_1 := fz BK476 1
        have hnb34 := NB472_473.out
        have hnc34 := NB473_472.out
        have hcz35_0 := cz0 BK472.out
        have hcz35_1 := cz1 BK472.out
        have hcz35_2 := cz2 BK472.out
        have hcz35_3 := cz3 BK472.out
        have hfz35_0 := fz BK472 0
        have hfz35_1 := fz BK472 1
        have hfz35_2 := fz BK472 2
        have hfz35_3 := fz BK472 3
        go_wp2_with (first | (go_at_call 30; (with_reducible refine (surmiseref05_Names.calls kj21 _ _ l0_1 6 t477 t478 _ ?side1 ?side2 A28.out).mono ?_); (case side1 => exact kC HR0_1); (case side2 => exact HC0_1.out); rintro e w36 ⟨rfl, hb⟩; have n0_ := Am (blk_below (kB BK472) hb); have n1_ := Am (blk_below (kB BK473) hb); have n2_ := Am (blk_below (kB BK476) hb); have n3_ := Am (below_step (bs) hb); clear BK472; clear BK473; clear BK476; clear HB; have BK472 := n0_; have BK473 := n1_; have BK476 := n2_; have HB := n3_; clear n0_ n1_ n2_ n3_; (try clear hb); (try clear hb2); (try clear hk); (try clear hi); have hcz37_0 := cz0 BK476.out; have hcz37_1 := cz1 BK476.out; have hfz37_0 := fz BK476 0; have hfz37_1 := fz BK476 1; have hcz38_0 := cz0 BK472.out; have hcz38_1 := cz1 BK472.out; have hcz38_2 := cz2 BK472.out; have hcz38_3 := cz3 BK472.out; have hfz38_0 := fz BK472 0; have hfz38_1 := fz BK472 1; have hfz38_2 := fz BK472 2; have hfz38_3 := fz BK472 3))
        repeat (go_quiet (first | (go_at_call 30; (with_reducible refine (surmiseref05_Names.calls kj21 _ _ l0_1 6 t477 t478 _ ?side1 ?side2 A28.out).mono ?_); (case side1 => exact kC HR0_1); (case side2 => exact HC0_1.out); rintro e w36 ⟨rfl, hb⟩; have n0_ := Am (blk_below (kB BK472) hb); have n1_ := Am (blk_below (kB BK473) hb); have n2_ := Am (blk_below (kB BK476) hb); have n3_ := Am (below_step (bs) hb); clear BK472; clear BK473; clear BK476; clear HB; have BK472 := n0_; have BK473 := n1_; have BK476 := n2_; have HB := n3_; clear n0_ n1_ n2_ n3_; (try clear hb); (try clear hb2); (try clear hk); (try clear hi); have hcz37_0 := cz0 BK476.out; have hcz37_1 := cz1 BK476.out; have hfz37_0 := fz BK476 0; have hfz37_1 := fz BK476 1; have hcz38_0 := cz0 BK472.out; have hcz38_1 := cz1 BK472.out; have hcz38_2 := cz2 BK472.out; have hcz38_3 := cz3 BK472.out; have hfz38_0 := fz BK472 0; have hfz38_1 := fz BK472 1; have hfz38_2 := fz BK472 2; have hfz38_3 := fz BK472 3)); try go_wp2_with (first | (go_at_call 30; (with_reducible refine (surmiseref05_Names.calls kj21 _ _ l0_1 6 t477 t478 _ ?side1 ?side2 A28.out).mono ?_); (case side1 => exact kC HR0_1); (case side2 => exact HC0_1.out); rintro e w36 ⟨rfl, hb⟩; have n0_ := Am (blk_below (kB BK472) hb); have n1_ := Am (blk_below (kB BK473) hb); have n2_ := Am (blk_below (kB BK476) hb); have n3_ := Am (below_step (bs) hb); clear BK472; clear BK473; clear BK476; clear HB; have BK472 := n0_; have BK473 := n1_; have BK476 := n2_; have HB := n3_; clear n0_ n1_ n2_ n3_; (try clear hb); (try clear hb2); (try clear hk); (try clear hi); have hcz37_0 := cz0 BK476.out; have hcz37_1 := cz1 BK476.out; have hfz37_0 := fz BK476 0; have hfz37_1 := fz BK476 1; have hcz38_0 := cz0 BK472.out; have hcz38_1 := cz1 BK472.out; have hcz38_2 := cz2 BK472.out; have hcz38_3 := cz3 BK472.out; have hfz38_0 := fz BK472 0; have hfz38_1 := fz BK472 1; have hfz38_2 := fz BK472 2; have hfz38_3 := fz BK472 3)))
        go_loopg [4] kj21 (fun kq v4 w' => ∃ (x4_3 : Int) (x474000_3 : Int) (x474001_3 : Int) (x474002_3 : Int) (x474003_3 : Int), v4 = .int .i64 x4_3 ∧ Aside0 (surmiseref05_Check.l0 kq x4_3 l0_0 l0_1 l0_2 l0_3 = some (r1, r2, r3, r4)) ∧ Aside0 (kq ≤ kj21) ∧ Aside0 (w'.heap[gb472]? = some (.cells #[(.slice A0_0 l0_0.length c0_0), (.slice A0_1 l0_1.length c0_1), (.slice A0_2 l0_2.length c0_2), (.slice A0_3 l0_3.length c0_3)] 26 (0, 0))) ∧ Aside0 (w'.heap[gb473]? = some (.cells #[.int .i64 x474000_3, .int .i64 x474001_3, .int .i64 x474002_3, .int .i64 x474003_3] 30 (0, 0))) ∧ Aside0 (w'.heap[gb476]? = some (.cells #[.int .i64 t477, .int .i64 t478] 54 (0, 0))) ∧ Aside0 (Below w.heap.size w w'))
        case atStart => exact ⟨(0), (0), (0), (0), (0), rq, H', ⟨Nat.le_refl _⟩, ⟨kZ BK472⟩, ⟨kZ BK473⟩, ⟨by (with_reducible repeat (first | refine blk_drewN ?_ _ | refine blk_drew ?_ | refine blk_alloc ?_ _)); refine blk_put (cs := #[.int .i64 t477, .int .i64 x477001_21]) ?_ 1 _ rfl; (with_reducible repeat (first | refine blk_drewN ?_ _ | refine blk_drew ?_ | refine blk_alloc ?_ _)); refine blk_put (cs := #[.int .i64 t474, .int .i64 x477001_21]) ?_ 0 _ rfl; (with_reducible repeat (first | refine blk_drewN ?_ _ | refine blk_drew ?_ | refine blk_alloc ?_ _)); exact BK476.out⟩, ⟨bs⟩⟩
        case round =>
         clear H'
         try clear c1
         try clear c2
         try clear p2
         try clear c3
         try clear c6
         try clear c10
         try clear c11
         try clear c13
         try clear c13b0
         try clear c13b1
         try clear c14
         try clear c15
         try clear c17
         try clear c19
         try clear c20
         try clear c23
         try clear c24
         try clear c25
         try clear c27
         try clear c27b0
         try clear c27b1
         try clear c29
         try clear c29b0
         try clear c29b1
         try clear c30
         try clear c30b0
         try clear c30b1
         try clear c30b2
         try clear c31
         try clear c32
         try clear c34
         try clear hcz12_0
         try clear hcz12_1
         try clear hcz16_0
         try clear hcz16_1
         try clear hcz18_0
         try clear hcz18_1
         try clear hcz18_2
         try clear hcz18_3
         try clear hcz21_0
         try clear hcz21_1
         try clear hcz26_0
         try clear hcz26_1
         try clear hcz33_0
         try clear hcz33_1
         try clear hcz35_0
         try clear hcz35_1
         try clear hcz35_2
         try clear hcz35_3
         try clear hcz37_0
         try clear hcz37_1
         try clear hcz38_0
         try clear hcz38_1
         try clear hcz38_2
         try clear hcz38_3
         try clear hcz7_0
         try clear hcz7_1
         try clear hcz7_2
         try clear hcz7_3
         try clear hfz12_0
         try clear hfz12_1
         try clear hfz16_0
         try clear hfz16_1
         try clear hfz18_0
         try clear hfz18_1
         try clear hfz18_2
         try clear hfz18_3
         try clear hfz21_0
         try clear hfz21_1
         try clear hfz26_0
         try clear hfz26_1
         try clear hfz33_0
         try clear hfz33_1
         try clear hfz35_0
         try clear hfz35_1
         try clear hfz35_2
         try clear hfz35_3
         try clear hfz37_0
         try clear hfz37_1
         try clear hfz38_0
         try clear hfz38_1
         try clear hfz38_2
         try clear hfz38_3
         try clear hfz7_0
         try clear hfz7_1
         try clear hfz7_2
         try clear hfz7_3
         try clear p2
         obtain ⟨x4_3, x474000_3, x474001_3, x474002_3, x474003_3, rfl, HA, HK3, BK472, BK473, BK476, HB⟩ := hrel
         cases gk with
         | zero => exact absurd HA.out (by simp [surmiseref05_Check.l0])
         | succ k3 =>
          have H := HA.out
          clear HA
          simp only [surmiseref05_Check.l0] at H
          by_cases c39 : x4_3 < (l0_2.length : Int)
          ·
           rw [if_pos c39] at H
           have c39b0 : decide (x4_3 < (l0_2.length : Int)) = true := decide_eq_true c39
           clear c39
           by_cases c40 : 0 ≤ x4_3
           ·
            rw [if_pos c40] at H
            have c40b0 : decide (0 ≤ x4_3) = true := decide_eq_true c40
            clear c40
            obtain ⟨t480, A410, H⟩ := Option.bind_eq_some_iff.mp H
            replace H : (if t480 = true then (surmiseref05_Check.l0 k3 (wrap64 (x4_3 + 1)) l0_0 l0_1 l0_2 l0_3) else (some (3, (-1), 3, x4_3))) = some (r1, r2, r3, r4) := H
            have A41 := Am A410
            clear A410
            by_cases c42 : t480 = true
            ·
             subst c42
             have H1 : (surmiseref05_Check.l0 k3 (wrap64 (x4_3 + 1)) l0_0 l0_1 l0_2 l0_3) = some (r1, r2, r3, r4) := by rw [if_pos rfl] at H; exact H
             clear H
             have H := H1
             clear H1
             have H' := Am H
             clear H
             have hnb43 := NB472_473.out
             have hnc43 := NB473_472.out
             have hnb44 := NB472_476.out
             have hnc44 := NB476_472.out
             have hcz45_0 := cz0 BK472.out
             have hcz45_1 := cz1 BK472.out
             have hcz45_2 := cz2 BK472.out
             have hcz45_3 := cz3 BK472.out
             have hfz45_0 := fz BK472 0
             have hfz45_1 := fz BK472 1
             have hfz45_2 := fz BK472 2
             have hfz45_3 := fz BK472 3
             have p479 : 0 ≤ (x4_3 : Int) := of_decide_eq_true az
             have q479 : x4_3 < (l0_2.length : Int) := of_decide_eq_true az
             obtain ⟨ad479, e479, hx479_0⟩ := Kd.at_int HR0_2.out x4_3 p479 q479
             cases e479
             replace hx479_0 := hX HB hx479_0
             replace p479 := eq_true p479
             replace q479 := eq_true q479
             go_wp2_with (first | (go_at_call 31; (with_reducible refine (surmiseref03_Value.calls (rd l0_2 x4_3) true _ A41.out).mono ?_); rintro e w' ⟨rfl, ⟨nd, rfl⟩⟩; (try first | exact ⟨rfl, _, World.drewN_drewN _ _ _⟩ | exact ⟨rfl, _, Eq.trans (World.drewN_drewN _ _ _) (congrArg (World.drewN _) (Nat.add_assoc _ _ _))⟩)))
             repeat (go_quiet (first | (go_at_call 31; (with_reducible refine (surmiseref03_Value.calls (rd l0_2 x4_3) true _ A41.out).mono ?_); rintro e w' ⟨rfl, ⟨nd, rfl⟩⟩; (try first | exact ⟨rfl, _, World.drewN_drewN _ _ _⟩ | exact ⟨rfl, _, Eq.trans (World.drewN_drewN _ _ _) (congrArg (World.drewN _) (Nat.add_assoc _ _ _))⟩))); try go_wp2_with (first | (go_at_call 31; (with_reducible refine (surmiseref03_Value.calls (rd l0_2 x4_3) true _ A41.out).mono ?_); rintro e w' ⟨rfl, ⟨nd, rfl⟩⟩; (try first | exact ⟨rfl, _, World.drewN_drewN _ _ _⟩ | exact ⟨rfl, _, Eq.trans (World.drewN_drewN _ _ _) (congrArg (World.drewN _) (Nat.add_assoc _ _ _))⟩))))
             go_roundg k3
             case measure => have := HJ2.out; have := HJ21.out; have := HK3.out; omega
             case rel => exact ⟨(wrap64 (x4_3 + 1)), (x474000_3), (x474001_3), (x474002_3), (x474003_3), rq, H', ⟨by have := HJ2.out; have := HJ21.out; have := HK3.out; omega⟩, ⟨kB BK472⟩, ⟨kB BK473⟩, ⟨kB BK476⟩, ⟨bs⟩⟩
            ·
             replace c42 := Bool.eq_false_iff.mpr c42
             subst c42
             have H1 : (some (3, (-1), 3, x4_3)) = some (r1, r2, r3, r4) := by rw [if_neg (show ¬ (false = true) by decide)] at H; exact H
             clear H
             have H := H1
             clear H1
             simp only [Option.some.injEq, Prod.mk.injEq] at H
             obtain ⟨rfl, rfl, rfl, rfl⟩ := H
             have hnb46 := NB472_473.out
             have hnc46 := NB473_472.out
             have hnb47 := NB472_476.out
             have hnc47 := NB476_472.out
             have hcz48_0 := cz0 BK472.out
             have hcz48_1 := cz1 BK472.out
             have hcz48_2 := cz2 BK472.out
             have hcz48_3 := cz3 BK472.out
             have hfz48_0 := fz BK472 0
             have hfz48_1 := fz BK472 1
             have hfz48_2 := fz BK472 2
             have hfz48_3 := fz BK472 3
             have p479 : 0 ≤ (x4_3 : Int) := of_decide_eq_true az
             have q479 : x4_3 < (l0_2.length : Int) := of_decide_eq_true az
             obtain ⟨ad479, e479, hx479_0⟩ := Kd.at_int HR0_2.out x4_3 p479 q479
             cases e479
             replace hx479_0 := hX HB hx479_0
             replace p479 := eq_true p479
             replace q479 := eq_true q479
             go_wp2_with (first | (go_at_call 31; (with_reducible refine (surmiseref03_Value.calls (rd l0_2 x4_3) false _ A41.out).mono ?_); rintro e w' ⟨rfl, ⟨nd, rfl⟩⟩; (try first | exact ⟨rfl, _, World.drewN_drewN _ _ _⟩ | exact ⟨rfl, _, Eq.trans (World.drewN_drewN _ _ _) (congrArg (World.drewN _) (Nat.add_assoc _ _ _))⟩); have hnb49 := NB473_476.out; have hnc49 := NB476_473.out; have hcz50_0 := cz0 BK473.out; have hcz50_1 := cz1 BK473.out; have hcz50_2 := cz2 BK473.out; have hcz50_3 := cz3 BK473.out; have hfz50_0 := fz BK473 0; have hfz50_1 := fz BK473 1; have hfz50_2 := fz BK473 2; have hfz50_3 := fz BK473 3))
             repeat (go_quiet (first | (go_at_call 31; (with_reducible refine (surmiseref03_Value.calls (rd l0_2 x4_3) false _ A41.out).mono ?_); rintro e w' ⟨rfl, ⟨nd, rfl⟩⟩; (try first | exact ⟨rfl, _, World.drewN_drewN _ _ _⟩ | exact ⟨rfl, _, Eq.trans (World.drewN_drewN _ _ _) (congrArg (World.drewN _) (Nat.add_assoc _ _ _))⟩); have hnb49 := NB473_476.out; have hnc49 := NB476_473.out; have hcz50_0 := cz0 BK473.out; have hcz50_1 := cz1 BK473.out; have hcz50_2 := cz2 BK473.out; have hcz50_3 := cz3 BK473.out; have hfz50_0 := fz BK473 0; have hfz50_1 := fz BK473 1; have hfz50_2 := fz BK473 2; have hfz50_3 := fz BK473 3)); try go_wp2_with (first | (go_at_call 31; (with_reducible refine (surmiseref03_Value.calls (rd l0_2 x4_3) false _ A41.out).mono ?_); rintro e w' ⟨rfl, ⟨nd, rfl⟩⟩; (try first | exact ⟨rfl, _, World.drewN_drewN _ _ _⟩ | exact ⟨rfl, _, Eq.trans (World.drewN_drewN _ _ _) (congrArg (World.drewN _) (Nat.add_assoc _ _ _))⟩); have hnb49 := NB473_476.out; have hnc49 := NB476_473.out; have hcz50_0 := cz0 BK473.out; have hcz50_1 := cz1 BK473.out; have hcz50_2 := cz2 BK473.out; have hcz50_3 := cz3 BK473.out; have hfz50_0 := fz BK473 0; have hfz50_1 := fz BK473 1; have hfz50_2 := fz BK473 2; have hfz50_3 := fz BK473 3)))
             refine bodyPost_ret (results_cell_row rfl _ _ gb473 30 #[.int .i64 3, .int .i64 (-1), .int .i64 3, .int .i64 x4_3] (0, 0) _ rfl (by (with_reducible repeat (first | refine blk_drewN ?_ _ | refine blk_drew ?_ | refine blk_alloc ?_ _)); refine blk_put (cs := #[.int .i64 3, .int .i64 (-1), .int .i64 3, .int .i64 x474003_3]) ?_ 3 _ rfl; (with_reducible repeat (first | refine blk_drewN ?_ _ | refine blk_drew ?_ | refine blk_alloc ?_ _)); refine blk_put (cs := #[.int .i64 3, .int .i64 (-1), .int .i64 x474002_3, .int .i64 x474003_3]) ?_ 2 _ rfl; (with_reducible repeat (first | refine blk_drewN ?_ _ | refine blk_drew ?_ | refine blk_alloc ?_ _)); refine blk_put (cs := #[.int .i64 3, .int .i64 x474001_3, .int .i64 x474002_3, .int .i64 x474003_3]) ?_ 1 _ rfl; (with_reducible repeat (first | refine blk_drewN ?_ _ | refine blk_drew ?_ | refine blk_alloc ?_ _)); refine blk_put (cs := #[.int .i64 x474000_3, .int .i64 x474001_3, .int .i64 x474002_3, .int .i64 x474003_3]) ?_ 0 _ rfl; (with_reducible repeat (first | refine blk_drewN ?_ _ | refine blk_drew ?_ | refine blk_alloc ?_ _)); exact BK473.out) Try.underlying30 rfl (by kernel_rfl)) rfl ?_
             exact ⟨xq, bs⟩
           ·
            rw [if_neg c40] at H
            exact absurd H (by simp)
          ·
           rw [if_neg c39] at H
           have c39b0 : decide (x4_3 < (l0_2.length : Int)) = false := decide_eq_false c39
           clear c39
           by_cases c51 : (l0_3.length : Int) > 12
           ·
            rw [if_pos c51] at H
            have c51b0 : decide (12 < (l0_3.length : Int)) = true := decide_eq_true c51
            have c51b1 : decide (12 < l0_3.length) = true := decide_eq_true (by omega)
            clear c51
            simp only [Option.some.injEq, Prod.mk.injEq] at H
            obtain ⟨rfl, rfl, rfl, rfl⟩ := H
            have hnb52 := NB472_473.out
            have hnc52 := NB473_472.out
            have hnb53 := NB472_476.out
            have hnc53 := NB476_472.out
            have hcz54_0 := cz0 BK472.out
            have hcz54_1 := cz1 BK472.out
            have hcz54_2 := cz2 BK472.out
            have hcz54_3 := cz3 BK472.out
            have hfz54_0 := fz BK472 0
            have hfz54_1 := fz BK472 1
            have hfz54_2 := fz BK472 2
            have hfz54_3 := fz BK472 3
            have hnb55 := NB473_476.out
            have hnc55 := NB476_473.out
            have hcz56_0 := cz0 BK473.out
            have hcz56_1 := cz1 BK473.out
            have hcz56_2 := cz2 BK473.out
            have hcz56_3 := cz3 BK473.out
            have hfz56_0 := fz BK473 0
            have hfz56_1 := fz BK473 1
            have hfz56_2 := fz BK473 2
            have hfz56_3 := fz BK473 3
            go_wp2
            repeat (go_quiet (fail); try go_wp2)
            refine bodyPost_ret (results_cell_row rfl _ _ gb473 30 #[.int .i64 4, .int .i64 (-1), .int .i64 4, .int .i64 0] (0, 0) _ rfl (by (with_reducible repeat (first | refine blk_drewN ?_ _ | refine blk_drew ?_ | refine blk_alloc ?_ _)); refine blk_put (cs := #[.int .i64 4, .int .i64 (-1), .int .i64 4, .int .i64 x474003_3]) ?_ 3 _ rfl; (with_reducible repeat (first | refine blk_drewN ?_ _ | refine blk_drew ?_ | refine blk_alloc ?_ _)); refine blk_put (cs := #[.int .i64 4, .int .i64 (-1), .int .i64 x474002_3, .int .i64 x474003_3]) ?_ 2 _ rfl; (with_reducible repeat (first | refine blk_drewN ?_ _ | refine blk_drew ?_ | refine blk_alloc ?_ _)); refine blk_put (cs := #[.int .i64 4, .int .i64 x474001_3, .int .i64 x474002_3, .int .i64 x474003_3]) ?_ 1 _ rfl; (with_reducible repeat (first | refine blk_drewN ?_ _ | refine blk_drew ?_ | refine blk_alloc ?_ _)); refine blk_put (cs := #[.int .i64 x474000_3, .int .i64 x474001_3, .int .i64 x474002_3, .int .i64 x474003_3]) ?_ 0 _ rfl; (with_reducible repeat (first | refine blk_drewN ?_ _ | refine blk_drew ?_ | refine blk_alloc ?_ _)); exact BK473.out) Try.underlying30 rfl (by kernel_rfl)) rfl ?_
            exact ⟨xq, bs⟩
           ·
            rw [if_neg c51] at H
            have c51b0 : decide (12 < (l0_3.length : Int)) = false := decide_eq_false c51
            have c51b1 : decide (12 < l0_3.length) = false := decide_eq_false (by omega)
            clear c51
            have H' := Am H
            clear H
            have hnb57 := NB472_473.out
            have hnc57 := NB473_472.out
            have hnb58 := NB472_476.out
            have hnc58 := NB476_472.out
            have hcz59_0 := cz0 BK472.out
            have hcz59_1 := cz1 BK472.out
            have hcz59_2 := cz2 BK472.out
            have hcz59_3 := cz3 BK472.out
            have hfz59_0 := fz BK472 0
            have hfz59_1 := fz BK472 1
            have hfz59_2 := fz BK472 2
            have hfz59_3 := fz BK472 3
            go_wp2
            repeat (go_quiet (fail); try go_wp2)
            go_loopg [5] k3 (fun kq v5 w' => ∃ (x5_4 : Int) (x474000_4 : Int) (x474001_4 : Int) (x474002_4 : Int) (x474003_4 : Int), v5 = .int .i64 x5_4 ∧ Aside0 (surmiseref05_Check.l1 kq x5_4 l0_0 l0_1 l0_2 l0_3 = some (r1, r2, r3, r4)) ∧ Aside0 (kq ≤ k3) ∧ Aside0 (w'.heap[gb472]? = some (.cells #[(.slice A0_0 l0_0.length c0_0), (.slice A0_1 l0_1.length c0_1), (.slice A0_2 l0_2.length c0_2), (.slice A0_3 l0_3.length c0_3)] 26 (0, 0))) ∧ Aside0 (w'.heap[gb473]? = some (.cells #[.int .i64 x474000_4, .int .i64 x474001_4, .int .i64 x474002_4, .int .i64 x474003_4] 30 (0, 0))) ∧ Aside0 (w'.heap[gb476]? = some (.cells #[.int .i64 t477, .int .i64 t478] 54 (0, 0))) ∧ Aside0 (Below w.heap.size w w'))
            case atStart => exact ⟨(0), (x474000_3), (x474001_3), (x474002_3), (x474003_3), rq, H', ⟨Nat.le_refl _⟩, ⟨kB BK472⟩, ⟨kB BK473⟩, ⟨kB BK476⟩, ⟨bs⟩⟩
            case round =>
             clear H'
             try clear c1
             try clear c2
             try clear p2
             try clear c3
             try clear c4
             try clear p4
             try clear q4
             try clear hx4
             try clear c5
             try clear c6
             try clear p6
             try clear c10
             try clear c11
             try clear c13
             try clear c13b0
             try clear c13b1
             try clear c14
             try clear c15
             try clear c17
             try clear c19
             try clear c20
             try clear c23
             try clear c24
             try clear c25
             try clear c27
             try clear c27b0
             try clear c27b1
             try clear c29
             try clear c29b0
             try clear c29b1
             try clear c30
             try clear c30b0
             try clear c30b1
             try clear c30b2
             try clear c31
             try clear c32
             try clear c34
             try clear c39
             try clear c39b0
             try clear c40
             try clear c40b0
             try clear c42
             try clear c43
             try clear c44
             try clear c46
             try clear c47
             try clear p47
             try clear q47
             try clear hx47
             try clear c49
             try clear c51
             try clear c51b0
             try clear c51b1
             try clear c52
             try clear c53
             try clear c55
             try clear c57
             try clear c58
             try clear hcz12_0
             try clear hcz12_1
             try clear hcz16_0
             try clear hcz16_1
             try clear hcz18_0
             try clear hcz18_1
             try clear hcz18_2
             try clear hcz18_3
             try clear hcz21_0
             try clear hcz21_1
             try clear hcz26_0
             try clear hcz26_1
             try clear hcz33_0
             try clear hcz33_1
             try clear hcz35_0
             try clear hcz35_1
             try clear hcz35_2
             try clear hcz35_3
             try clear hcz37_0
             try clear hcz37_1
             try clear hcz38_0
             try clear hcz38_1
             try clear hcz38_2
             try clear hcz38_3
             try clear hcz45_0
             try clear hcz45_1
             try clear hcz45_2
             try clear hcz45_3
             try clear hcz48_0
             try clear hcz48_1
             try clear hcz48_2
             try clear hcz48_3
             try clear hcz50_0
             try clear hcz50_1
             try clear hcz50_2
             try clear hcz50_3
             try clear hcz54_0
             try clear hcz54_1
             try clear hcz54_2
             try clear hcz54_3
             try clear hcz56_0
             try clear hcz56_1
             try clear hcz56_2
             try clear hcz56_3
             try clear hcz59_0
             try clear hcz59_1
             try clear hcz59_2
             try clear hcz59_3
             try clear hcz7_0
             try clear hcz7_1
             try clear hcz7_2
             try clear hcz7_3
             try clear hfz12_0
             try clear hfz12_1
             try clear hfz16_0
             try clear hfz16_1
             try clear hfz18_0
             try clear hfz18_1
             try clear hfz18_2
             try clear hfz18_3
             try clear hfz21_0
             try clear hfz21_1
             try clear hfz26_0
             try clear hfz26_1
             try clear hfz33_0
             try clear hfz33_1
             try clear hfz35_0
             try clear hfz35_1
             try clear hfz35_2
             try clear hfz35_3
             try clear hfz37_0
             try clear hfz37_1
             try clear hfz38_0
             try clear hfz38_1
             try clear hfz38_2
             try clear hfz38_3
             try clear hfz45_0
             try clear hfz45_1
             try clear hfz45_2
             try clear hfz45_3
             try clear hfz48_0
             try clear hfz48_1
             try clear hfz48_2
             try clear hfz48_3
             try clear hfz50_0
             try clear hfz50_1
             try clear hfz50_2
             try clear hfz50_3
             try clear hfz54_0
             try clear hfz54_1
             try clear hfz54_2
             try clear hfz54_3
             try clear hfz56_0
             try clear hfz56_1
             try clear hfz56_2
             try clear hfz56_3
             try clear hfz59_0
             try clear hfz59_1
             try clear hfz59_2
             try clear hfz59_3
             try clear hfz7_0
             try clear hfz7_1
             try clear hfz7_2
             try clear hfz7_3
             try clear hx479_0
             try clear p2
             try clear p479
             try clear q479
             obtain ⟨x5_4, x474000_4, x474001_4, x474002_4, x474003_4, rfl, HA, HK4, BK472, BK473, BK476, HB⟩ := hrel
             cases gk with
             | zero => exact absurd HA.out (by simp [surmiseref05_Check.l1])
             | succ k4 =>
              have H := HA.out
              clear HA
              simp only [surmiseref05_Check.l1] at H
              by_cases c60 : x5_4 < (l0_3.length : Int)
              ·
               rw [if_pos c60] at H
               have c60b0 : decide (x5_4 < (l0_3.length : Int)) = true := decide_eq_true c60
               clear c60
               by_cases c61 : 0 ≤ x5_4
               ·
                rw [if_pos c61] at H
                have c61b0 : decide (0 ≤ x5_4) = true := decide_eq_true c61
                clear c61
                obtain ⟨t483, A620, H⟩ := Option.bind_eq_some_iff.mp H
                replace H : (if t483 = true then (surmiseref05_Check.l2 k4 x5_4 0 l0_0 l0_1 l0_2 l0_3 ((rd_T38 l0_3 x5_4).f0) ((rd_T38 l0_3 x5_4).f1) ((rd_T38 l0_3 x5_4).f2) ((rd_T38 l0_3 x5_4).f3) ((rd_T38 l0_3 x5_4).f4)) else (some (6, x5_4, 5, 0))) = some (r1, r2, r3, r4) := H
                have A62 := Am A620
                clear A620
                by_cases c63 : t483 = true
                ·
                 subst c63
                 have H1 : (surmiseref05_Check.l2 k4 x5_4 0 l0_0 l0_1 l0_2 l0_3 ((rd_T38 l0_3 x5_4).f0) ((rd_T38 l0_3 x5_4).f1) ((rd_T38 l0_3 x5_4).f2) ((rd_T38 l0_3 x5_4).f3) ((rd_T38 l0_3 x5_4).f4)) = some (r1, r2, r3, r4) := by rw [if_pos rfl] at H; exact H
                 clear H
                 have H := H1
                 clear H1
                 have H' := Am H
                 clear H
                 have hnb64 := NB472_473.out
                 have hnc64 := NB473_472.out
                 have hnb65 := NB472_476.out
                 have hnc65 := NB476_472.out
                 have hcz66_0 := cz0 BK472.out
                 have hcz66_1 := cz1 BK472.out
                 have hcz66_2 := cz2 BK472.out
                 have hcz66_3 := cz3 BK472.out
                 have hfz66_0 := fz BK472 0
                 have hfz66_1 := fz BK472 1
                 have hfz66_2 := fz BK472 2
                 have hfz66_3 := fz BK472 3
                 have p481 : 0 ≤ (x5_4 : Int) := of_decide_eq_true az
                 have q481 : x5_4 < (l0_3.length : Int) := of_decide_eq_true az
                 obtain ⟨ad481, A481_2, c481_2, A481_3, c481_3, A481_4, c481_4, e481, hx481_0, hx481_1, hx481_2, hx481_3, hx481_4, hl481_2, hi481_2, hl481_3, hi481_3, hl481_4, hi481_4⟩ := at_T38 HR0_3.out x5_4 p481 q481
                 cases e481
                 replace hx481_0 := hX HB hx481_0
                 replace hx481_1 := hX HB hx481_1
                 replace hx481_2 := hX HB hx481_2
                 replace hx481_3 := hX HB hx481_3
                 replace hx481_4 := hX HB hx481_4
                 have HR481_2 := Am hi481_2
                 have HC481_2 := Am hl481_2
                 clear hi481_2 hl481_2
                 have HR481_3 := Am hi481_3
                 have HC481_3 := Am hl481_3
                 clear hi481_3 hl481_3
                 have HR481_4 := Am hi481_4
                 have HC481_4 := Am hl481_4
                 clear hi481_4 hl481_4
                 replace p481 := eq_true p481
                 replace q481 := eq_true q481
                 go_wp2_with (first | ((with_reducible refine gate_dst (N := 6) rfl ?_); (try (refine gate_guard (by rfl) ?_; dsimp only)); refine bxe (N := 6) (cs := #[.string (⟨#[]⟩ : ByteArray), .int .i64 0, .slice none 0 0, .slice none 0 0, .slice none 0 0]) (t := 38) ?_; intro gb482 hg w67 hbox hb; have n0_ := Am (blk_below (kB BK472) hb); have n1_ := Am (blk_below (kB BK473) hb); have n2_ := Am (blk_below (kB BK476) hb); have n3_ := Am (below_step (bs) hb); have n4_ := Am (hbox); have n5_ := Am ((gE hg : w.heap.size ≤ gb482)); have n6_ := Am ((gE hg : w.heap.size ≤ gb482)); have n7_ := Am (nL hg BK472); have n8_ := Am (nG hg BK472); have n9_ := Am (nL hg BK473); have n10_ := Am (nG hg BK473); have n11_ := Am (nL hg BK476); have n12_ := Am (nG hg BK476); clear BK472; clear BK473; clear BK476; clear HB; have BK472 := n0_; have BK473 := n1_; have BK476 := n2_; have HB := n3_; have BK482 := n4_; have GW482 := n5_; have GE482 := n6_; have NB472_482 := n7_; have NB482_472 := n8_; have NB473_482 := n9_; have NB482_473 := n10_; have NB476_482 := n11_; have NB482_476 := n12_; clear n0_ n1_ n2_ n3_ n4_ n5_ n6_ n7_ n8_ n9_ n10_ n11_ n12_; clear hb hbox hg; have hnb68 := NB482_472.out; have hnc68 := NB472_482.out; have hnb69 := NB482_473.out; have hnc69 := NB473_482.out; have hnb70 := NB482_476.out; have hnc70 := NB476_482.out; have hcz71_0 := cz0 BK482.out; have hcz71_1 := cz1 BK482.out; have hcz71_2 := cz2 BK482.out; have hcz71_3 := cz3 BK482.out; have hcz71_4 := cz4 BK482.out; have hfz71_0 := fz BK482 0; have hfz71_1 := fz BK482 1; have hfz71_2 := fz BK482 2; have hfz71_3 := fz BK482 3; have hfz71_4 := fz BK482 4) | (go_at_call 32; (with_reducible refine (surmiseref04_Name.calls k4 ((rd_T38 l0_3 x5_4).f0) true _ A62.out).mono ?_); rintro e w' ⟨rfl, ⟨nd, rfl⟩⟩; (try first | exact ⟨rfl, _, World.drewN_drewN _ _ _⟩ | exact ⟨rfl, _, Eq.trans (World.drewN_drewN _ _ _) (congrArg (World.drewN _) (Nat.add_assoc _ _ _))⟩)))
                 repeat (go_quiet (first | ((with_reducible refine gate_dst (N := 6) rfl ?_); (try (refine gate_guard (by rfl) ?_; dsimp only)); refine bxe (N := 6) (cs := #[.string (⟨#[]⟩ : ByteArray), .int .i64 0, .slice none 0 0, .slice none 0 0, .slice none 0 0]) (t := 38) ?_; intro gb482 hg w67 hbox hb; have n0_ := Am (blk_below (kB BK472) hb); have n1_ := Am (blk_below (kB BK473) hb); have n2_ := Am (blk_below (kB BK476) hb); have n3_ := Am (below_step (bs) hb); have n4_ := Am (hbox); have n5_ := Am ((gE hg : w.heap.size ≤ gb482)); have n6_ := Am ((gE hg : w.heap.size ≤ gb482)); have n7_ := Am (nL hg BK472); have n8_ := Am (nG hg BK472); have n9_ := Am (nL hg BK473); have n10_ := Am (nG hg BK473); have n11_ := Am (nL hg BK476); have n12_ := Am (nG hg BK476); clear BK472; clear BK473; clear BK476; clear HB; have BK472 := n0_; have BK473 := n1_; have BK476 := n2_; have HB := n3_; have BK482 := n4_; have GW482 := n5_; have GE482 := n6_; have NB472_482 := n7_; have NB482_472 := n8_; have NB473_482 := n9_; have NB482_473 := n10_; have NB476_482 := n11_; have NB482_476 := n12_; clear n0_ n1_ n2_ n3_ n4_ n5_ n6_ n7_ n8_ n9_ n10_ n11_ n12_; clear hb hbox hg; have hnb68 := NB482_472.out; have hnc68 := NB472_482.out; have hnb69 := NB482_473.out; have hnc69 := NB473_482.out; have hnb70 := NB482_476.out; have hnc70 := NB476_482.out; have hcz71_0 := cz0 BK482.out; have hcz71_1 := cz1 BK482.out; have hcz71_2 := cz2 BK482.out; have hcz71_3 := cz3 BK482.out; have hcz71_4 := cz4 BK482.out; have hfz71_0 := fz BK482 0; have hfz71_1 := fz BK482 1; have hfz71_2 := fz BK482 2; have hfz71_3 := fz BK482 3; have hfz71_4 := fz BK482 4) | (go_at_call 32; (with_reducible refine (surmiseref04_Name.calls k4 ((rd_T38 l0_3 x5_4).f0) true _ A62.out).mono ?_); rintro e w' ⟨rfl, ⟨nd, rfl⟩⟩; (try first | exact ⟨rfl, _, World.drewN_drewN _ _ _⟩ | exact ⟨rfl, _, Eq.trans (World.drewN_drewN _ _ _) (congrArg (World.drewN _) (Nat.add_assoc _ _ _))⟩))); try go_wp2_with (first | ((with_reducible refine gate_dst (N := 6) rfl ?_); (try (refine gate_guard (by rfl) ?_; dsimp only)); refine bxe (N := 6) (cs := #[.string (⟨#[]⟩ : ByteArray), .int .i64 0, .slice none 0 0, .slice none 0 0, .slice none 0 0]) (t := 38) ?_; intro gb482 hg w67 hbox hb; have n0_ := Am (blk_below (kB BK472) hb); have n1_ := Am (blk_below (kB BK473) hb); have n2_ := Am (blk_below (kB BK476) hb); have n3_ := Am (below_step (bs) hb); have n4_ := Am (hbox); have n5_ := Am ((gE hg : w.heap.size ≤ gb482)); have n6_ := Am ((gE hg : w.heap.size ≤ gb482)); have n7_ := Am (nL hg BK472); have n8_ := Am (nG hg BK472); have n9_ := Am (nL hg BK473); have n10_ := Am (nG hg BK473); have n11_ := Am (nL hg BK476); have n12_ := Am (nG hg BK476); clear BK472; clear BK473; clear BK476; clear HB; have BK472 := n0_; have BK473 := n1_; have BK476 := n2_; have HB := n3_; have BK482 := n4_; have GW482 := n5_; have GE482 := n6_; have NB472_482 := n7_; have NB482_472 := n8_; have NB473_482 := n9_; have NB482_473 := n10_; have NB476_482 := n11_; have NB482_476 := n12_; clear n0_ n1_ n2_ n3_ n4_ n5_ n6_ n7_ n8_ n9_ n10_ n11_ n12_; clear hb hbox hg; have hnb68 := NB482_472.out; have hnc68 := NB472_482.out; have hnb69 := NB482_473.out; have hnc69 := NB473_482.out; have hnb70 := NB482_476.out; have hnc70 := NB476_482.out; have hcz71_0 := cz0 BK482.out; have hcz71_1 := cz1 BK482.out; have hcz71_2 := cz2 BK482.out; have hcz71_3 := cz3 BK482.out; have hcz71_4 := cz4 BK482.out; have hfz71_0 := fz BK482 0; have hfz71_1 := fz BK482 1; have hfz71_2 := fz BK482 2; have hfz71_3 := fz BK482 3; have hfz71_4 := fz BK482 4) | (go_at_call 32; (with_reducible refine (surmiseref04_Name.calls k4 ((rd_T38 l0_3 x5_4).f0) true _ A62.out).mono ?_); rintro e w' ⟨rfl, ⟨nd, rfl⟩⟩; (try first | exact ⟨rfl, _, World.drewN_drewN _ _ _⟩ | exact ⟨rfl, _, Eq.trans (World.drewN_drewN _ _ _) (congrArg (World.drewN _) (Nat.add_assoc _ _ _))⟩))))
                 go_loopg [7] k4 (fun kq v7 w' => ∃ (x7_5 : Int) (x474000_5 : Int) (x474001_5 : Int) (x474002_5 : Int) (x474003_5 : Int), v7 = .int .i64 x7_5 ∧ Aside0 (surmiseref05_Check.l2 kq x5_4 x7_5 l0_0 l0_1 l0_2 l0_3 ((rd_T38 l0_3 x5_4).f0) ((rd_T38 l0_3 x5_4).f1) ((rd_T38 l0_3 x5_4).f2) ((rd_T38 l0_3 x5_4).f3) ((rd_T38 l0_3 x5_4).f4) = some (r1, r2, r3, r4)) ∧ Aside0 (kq ≤ k4) ∧ Aside0 (w'.heap[gb472]? = some (.cells #[(.slice A0_0 l0_0.length c0_0), (.slice A0_1 l0_1.length c0_1), (.slice A0_2 l0_2.length c0_2), (.slice (some ad481) l0_3.length c0_3)] 26 (0, 0))) ∧ Aside0 (w'.heap[gb473]? = some (.cells #[.int .i64 x474000_5, .int .i64 x474001_5, .int .i64 x474002_5, .int .i64 x474003_5] 30 (0, 0))) ∧ Aside0 (w'.heap[gb476]? = some (.cells #[.int .i64 t477, .int .i64 t478] 54 (0, 0))) ∧ Aside0 (w'.heap[gb482]? = some (.cells #[.string ((rd_T38 l0_3 x5_4).f0), .int .i64 ((rd_T38 l0_3 x5_4).f1), (.slice A481_2 ((rd_T38 l0_3 x5_4).f2).length c481_2), (.slice A481_3 ((rd_T38 l0_3 x5_4).f3).length c481_3), (.slice A481_4 ((rd_T38 l0_3 x5_4).f4).length c481_4)] 38 (0, 0))) ∧ Aside0 (Below w.heap.size w w'))
                 case atStart => exact ⟨(0), (x474000_4), (x474001_4), (x474002_4), (x474003_4), rq, H', ⟨Nat.le_refl _⟩, ⟨kZ BK472⟩, ⟨kZ BK473⟩, ⟨kZ BK476⟩, ⟨by (with_reducible repeat (first | refine blk_drewN ?_ _ | refine blk_drew ?_ | refine blk_alloc ?_ _)); refine blk_put (cs := #[.string ((rd_T38 l0_3 x5_4).f0), .int .i64 ((rd_T38 l0_3 x5_4).f1), .slice A481_2 ((rd_T38 l0_3 x5_4).f2).length c481_2, .slice A481_3 ((rd_T38 l0_3 x5_4).f3).length c481_3, .slice none 0 0]) ?_ 4 _ rfl; (with_reducible repeat (first | refine blk_drewN ?_ _ | refine blk_drew ?_ | refine blk_alloc ?_ _)); refine blk_put (cs := #[.string ((rd_T38 l0_3 x5_4).f0), .int .i64 ((rd_T38 l0_3 x5_4).f1), .slice A481_2 ((rd_T38 l0_3 x5_4).f2).length c481_2, .slice none 0 0, .slice none 0 0]) ?_ 3 _ rfl; (with_reducible repeat (first | refine blk_drewN ?_ _ | refine blk_drew ?_ | refine blk_alloc ?_ _)); refine blk_put (cs := #[.string ((rd_T38 l0_3 x5_4).f0), .int .i64 ((rd_T38 l0_3 x5_4).f1), .slice none 0 0, .slice none 0 0, .slice none 0 0]) ?_ 2 _ rfl; (with_reducible repeat (first | refine blk_drewN ?_ _ | refine blk_drew ?_ | refine blk_alloc ?_ _)); refine blk_put (cs := #[.string ((rd_T38 l0_3 x5_4).f0), .int .i64 0, .slice none 0 0, .slice none 0 0, .slice none 0 0]) ?_ 1 _ rfl; (with_reducible repeat (first | refine blk_drewN ?_ _ | refine blk_drew ?_ | refine blk_alloc ?_ _)); refine blk_put (cs := #[.string (⟨#[]⟩ : ByteArray), .int .i64 0, .slice none 0 0, .slice none 0 0, .slice none 0 0]) ?_ 0 _ rfl; (with_reducible repeat (first | refine blk_drewN ?_ _ | refine blk_drew ?_ | refine blk_alloc ?_ _)); exact BK482.out⟩, ⟨bs⟩⟩
                 case round =>
                  clear H'
                  try clear c1
                  try clear c2
                  try clear p2
                  try clear c3
                  try clear c4
                  try clear p4
                  try clear q4
                  try clear hx4
                  try clear c5
                  try clear c6
                  try clear p6
                  try clear c7
                  try clear c10
                  try clear c11
                  try clear c13
                  try clear c13b0
                  try clear c13b1
                  try clear c14
                  try clear c15
                  try clear c17
                  try clear c19
                  try clear c20
                  try clear c23
                  try clear c24
                  try clear c25
                  try clear c27
                  try clear c27b0
                  try clear c27b1
                  try clear c29
                  try clear c29b0
                  try clear c29b1
                  try clear c30
                  try clear c30b0
                  try clear c30b1
                  try clear c30b2
                  try clear c31
                  try clear c32
                  try clear c34
                  try clear c39
                  try clear c39b0
                  try clear c40
                  try clear c40b0
                  try clear c42
                  try clear c43
                  try clear c44
                  try clear c46
                  try clear c47
                  try clear p47
                  try clear q47
                  try clear hx47
                  try clear c48
                  try clear p48
                  try clear q48
                  try clear hx48
                  try clear c49
                  try clear c51
                  try clear c51b0
                  try clear c51b1
                  try clear c52
                  try clear c53
                  try clear c55
                  try clear c57
                  try clear c58
                  try clear c60
                  try clear c60b0
                  try clear c61
                  try clear c61b0
                  try clear c63
                  try clear c64
                  try clear p64
                  try clear c65
                  try clear c68
                  try clear c69
                  try clear c70
                  try clear hcz12_0
                  try clear hcz12_1
                  try clear hcz16_0
                  try clear hcz16_1
                  try clear hcz18_0
                  try clear hcz18_1
                  try clear hcz18_2
                  try clear hcz18_3
                  try clear hcz21_0
                  try clear hcz21_1
                  try clear hcz26_0
                  try clear hcz26_1
                  try clear hcz33_0
                  try clear hcz33_1
                  try clear hcz35_0
                  try clear hcz35_1
                  try clear hcz35_2
                  try clear hcz35_3
                  try clear hcz37_0
                  try clear hcz37_1
                  try clear hcz38_0
                  try clear hcz38_1
                  try clear hcz38_2
                  try clear hcz38_3
                  try clear hcz45_0
                  try clear hcz45_1
                  try clear hcz45_2
                  try clear hcz45_3
                  try clear hcz48_0
                  try clear hcz48_1
                  try clear hcz48_2
                  try clear hcz48_3
                  try clear hcz50_0
                  try clear hcz50_1
                  try clear hcz50_2
                  try clear hcz50_3
                  try clear hcz54_0
                  try clear hcz54_1
                  try clear hcz54_2
                  try clear hcz54_3
                  try clear hcz56_0
                  try clear hcz56_1
                  try clear hcz56_2
                  try clear hcz56_3
                  try clear hcz59_0
                  try clear hcz59_1
                  try clear hcz59_2
                  try clear hcz59_3
                  try clear hcz66_0
                  try clear hcz66_1
                  try clear hcz66_2
                  try clear hcz66_3
                  try clear hcz71_0
                  try clear hcz71_1
                  try clear hcz71_2
                  try clear hcz71_3
                  try clear hcz71_4
                  try clear hcz7_0
                  try clear hcz7_1
                  try clear hcz7_2
                  try clear hcz7_3
                  try clear hfz12_0
                  try clear hfz12_1
                  try clear hfz16_0
                  try clear hfz16_1
                  try clear hfz18_0
                  try clear hfz18_1
                  try clear hfz18_2
                  try clear hfz18_3
                  try clear hfz21_0
                  try clear hfz21_1
                  try clear hfz26_0
                  try clear hfz26_1
                  try clear hfz33_0
                  try clear hfz33_1
                  try clear hfz35_0
                  try clear hfz35_1
                  try clear hfz35_2
                  try clear hfz35_3
                  try clear hfz37_0
                  try clear hfz37_1
                  try clear hfz38_0
                  try clear hfz38_1
                  try clear hfz38_2
                  try clear hfz38_3
                  try clear hfz45_0
                  try clear hfz45_1
                  try clear hfz45_2
                  try clear hfz45_3
                  try clear hfz48_0
                  try clear hfz48_1
                  try clear hfz48_2
                  try clear hfz48_3
                  try clear hfz50_0
                  try clear hfz50_1
                  try clear hfz50_2
                  try clear hfz50_3
                  try clear hfz54_0
                  try clear hfz54_1
                  try clear hfz54_2
                  try clear hfz54_3
                  try clear hfz56_0
                  try clear hfz56_1
                  try clear hfz56_2
                  try clear hfz56_3
                  try clear hfz59_0
                  try clear hfz59_1
                  try clear hfz59_2
                  try clear hfz59_3
                  try clear hfz66_0
                  try clear hfz66_1
                  try clear hfz66_2
                  try clear hfz66_3
                  try clear hfz71_0
                  try clear hfz71_1
                  try clear hfz71_2
                  try clear hfz71_3
                  try clear hfz71_4
                  try clear hfz7_0
                  try clear hfz7_1
                  try clear hfz7_2
                  try clear hfz7_3
                  try clear hx479_0
                  try clear hx481_0
                  try clear hx481_1
                  try clear hx481_2
                  try clear hx481_3
                  try clear hx481_4
                  try clear p2
                  try clear p4
                  try clear p47
                  try clear p479
                  try clear p481
                  try clear p6
                  try clear q4
                  try clear q47
                  try clear q479
                  try clear q481
                  obtain ⟨x7_5, x474000_5, x474001_5, x474002_5, x474003_5, rfl, HA, HK5, BK472, BK473, BK476, BK482, HB⟩ := hrel
                  cases gk with
                  | zero => exact absurd HA.out (by simp [surmiseref05_Check.l2])
                  | succ k5 =>
                   have H := HA.out
                   clear HA
                   simp only [surmiseref05_Check.l2] at H
                   by_cases c72 : x7_5 < x5_4
                   ·
                    rw [if_pos c72] at H
                    have c72b0 : decide (x7_5 < x5_4) = true := decide_eq_true c72
                    clear c72
                    by_cases c73 : 0 ≤ x7_5
                    ·
                     rw [if_pos c73] at H
                     have c73b0 : decide (0 ≤ x7_5) = true := decide_eq_true c73
                     clear c73
                     by_cases c74 : x7_5 < (l0_3.length : Int)
                     ·
                      rw [if_pos c74] at H
                      have c74b0 : decide (x7_5 < (l0_3.length : Int)) = true := decide_eq_true c74
                      clear c74
                      by_cases c75 : ((rd_T38 l0_3 x7_5).f0).toList = ((rd_T38 l0_3 x5_4).f0).toList
                      ·
                       rw [if_pos c75] at H
                       have c75b0 : (((rd_T38 l0_3 x7_5).f0).toList == ((rd_T38 l0_3 x5_4).f0).toList) = true := beq_iff_eq.mpr c75
                       have c75b1 : (((rd_T38 l0_3 x7_5).f0).toList != ((rd_T38 l0_3 x5_4).f0).toList) = false := bne_eq_false_iff_eq.mpr c75
                       clear c75
                       simp only [Option.some.injEq, Prod.mk.injEq] at H
                       obtain ⟨rfl, rfl, rfl, rfl⟩ := H
                       have hnb76 := NB472_473.out
                       have hnc76 := NB473_472.out
                       have hnb77 := NB472_476.out
                       have hnc77 := NB476_472.out
                       have hnb78 := NB472_482.out
                       have hnc78 := NB482_472.out
                       have hcz79_0 := cz0 BK472.out
                       have hcz79_1 := cz1 BK472.out
                       have hcz79_2 := cz2 BK472.out
                       have hcz79_3 := cz3 BK472.out
                       have hfz79_0 := fz BK472 0
                       have hfz79_1 := fz BK472 1
                       have hfz79_2 := fz BK472 2
                       have hfz79_3 := fz BK472 3
                       have p484 : 0 ≤ (x7_5 : Int) := of_decide_eq_true az
                       have q484 : x7_5 < (l0_3.length : Int) := of_decide_eq_true az
                       obtain ⟨ad484, A484_2, c484_2, A484_3, c484_3, A484_4, c484_4, e484, hx484_0, hx484_1, hx484_2, hx484_3, hx484_4, hl484_2, hi484_2, hl484_3, hi484_3, hl484_4, hi484_4⟩ := at_T38 HR0_3.out x7_5 p484 q484
                       obtain rfl : ad481 = ad484 := (by injection e484)
                       replace hx484_0 := hX HB hx484_0
                       replace hx484_1 := hX HB hx484_1
                       replace hx484_2 := hX HB hx484_2
                       replace hx484_3 := hX HB hx484_3
                       replace hx484_4 := hX HB hx484_4
                       have HR484_2 := Am hi484_2
                       have HC484_2 := Am hl484_2
                       clear hi484_2 hl484_2
                       have HR484_3 := Am hi484_3
                       have HC484_3 := Am hl484_3
                       clear hi484_3 hl484_3
                       have HR484_4 := Am hi484_4
                       have HC484_4 := Am hl484_4
                       clear hi484_4 hl484_4
                       replace p484 := eq_true p484
                       replace q484 := eq_true q484
                       have hnb80 := NB482_473.out
                       have hnc80 := NB473_482.out
                       have hnb81 := NB482_476.out
                       have hnc81 := NB476_482.out
                       have hcz82_0 := cz0 BK482.out
                       have hcz82_1 := cz1 BK482.out
                       have hcz82_2 := cz2 BK482.out
                       have hcz82_3 := cz3 BK482.out
                       have hcz82_4 := cz4 BK482.out
                       have hfz82_0 := fz BK482 0
                       have hfz82_1 := fz BK482 1
                       have hfz82_2 := fz BK482 2
                       have hfz82_3 := fz BK482 3
                       have hfz82_4 := fz BK482 4
                       have hnb83 := NB473_476.out
                       have hnc83 := NB476_473.out
                       have hcz84_0 := cz0 BK473.out
                       have hcz84_1 := cz1 BK473.out
                       have hcz84_2 := cz2 BK473.out
                       have hcz84_3 := cz3 BK473.out
                       have hfz84_0 := fz BK473 0
                       have hfz84_1 := fz BK473 1
                       have hfz84_2 := fz BK473 2
                       have hfz84_3 := fz BK473 3
                       go_wp2
                       repeat (go_quiet (fail); try go_wp2)
                       refine bodyPost_ret (results_cell_row rfl _ _ gb473 30 #[.int .i64 9, .int .i64 x5_4, .int .i64 5, .int .i64 0] (0, 0) _ rfl (by (with_reducible repeat (first | refine blk_drewN ?_ _ | refine blk_drew ?_ | refine blk_alloc ?_ _)); refine blk_put (cs := #[.int .i64 9, .int .i64 x5_4, .int .i64 5, .int .i64 x474003_5]) ?_ 3 _ rfl; (with_reducible repeat (first | refine blk_drewN ?_ _ | refine blk_drew ?_ | refine blk_alloc ?_ _)); refine blk_put (cs := #[.int .i64 9, .int .i64 x5_4, .int .i64 x474002_5, .int .i64 x474003_5]) ?_ 2 _ rfl; (with_reducible repeat (first | refine blk_drewN ?_ _ | refine blk_drew ?_ | refine blk_alloc ?_ _)); refine blk_put (cs := #[.int .i64 9, .int .i64 x474001_5, .int .i64 x474002_5, .int .i64 x474003_5]) ?_ 1 _ rfl; (with_reducible repeat (first | refine blk_drewN ?_ _ | refine blk_drew ?_ | refine blk_alloc ?_ _)); refine blk_put (cs := #[.int .i64 x474000_5, .int .i64 x474001_5, .int .i64 x474002_5, .int .i64 x474003_5]) ?_ 0 _ rfl; (with_reducible repeat (first | refine blk_drewN ?_ _ | refine blk_drew ?_ | refine blk_alloc ?_ _)); exact BK473.out) Try.underlying30 rfl (by kernel_rfl)) rfl ?_
                       exact ⟨xq, bs⟩
                      ·
                       rw [if_neg c75] at H
                       have c75b0 : (((rd_T38 l0_3 x7_5).f0).toList == ((rd_T38 l0_3 x5_4).f0).toList) = false := beq_eq_false_iff_ne.mpr c75
                       have c75b1 : (((rd_T38 l0_3 x7_5).f0).toList != ((rd_T38 l0_3 x5_4).f0).toList) = true := bne_iff_ne.mpr c75
                       have H' := Am H
                       clear H
                       have hnb85 := NB472_473.out
                       have hnc85 := NB473_472.out
                       have hnb86 := NB472_476.out
                       have hnc86 := NB476_472.out
                       have hnb87 := NB472_482.out
                       have hnc87 := NB482_472.out
                       have hcz88_0 := cz0 BK472.out
                       have hcz88_1 := cz1 BK472.out
                       have hcz88_2 := cz2 BK472.out
                       have hcz88_3 := cz3 BK472.out
                       have hfz88_0 := fz BK472 0
                       have hfz88_1 := fz BK472 1
                       have hfz88_2 := fz BK472 2
                       have hfz88_3 := fz BK472 3
                       have p484 : 0 ≤ (x7_5 : Int) := of_decide_eq_true az
                       have q484 : x7_5 < (l0_3.length : Int) := of_decide_eq_true az
                       obtain ⟨ad484, A484_2, c484_2, A484_3, c484_3, A484_4, c484_4, e484, hx484_0, hx484_1, hx484_2, hx484_3, hx484_4, hl484_2, hi484_2, hl484_3, hi484_3, hl484_4, hi484_4⟩ := at_T38 HR0_3.out x7_5 p484 q484
                       obtain rfl : ad481 = ad484 := (by injection e484)
                       replace hx484_0 := hX HB hx484_0
                       replace hx484_1 := hX HB hx484_1
                       replace hx484_2 := hX HB hx484_2
                       replace hx484_3 := hX HB hx484_3
                       replace hx484_4 := hX HB hx484_4
                       have HR484_2 := Am hi484_2
                       have HC484_2 := Am hl484_2
                       clear hi484_2 hl484_2
                       have HR484_3 := Am hi484_3
                       have HC484_3 := Am hl484_3
                       clear hi484_3 hl484_3
                       have HR484_4 := Am hi484_4
                       have HC484_4 := Am hl484_4
                       clear hi484_4 hl484_4
                       replace p484 := eq_true p484
                       replace q484 := eq_true q484
                       have hnb89 := NB482_473.out
                       have hnc89 := NB473_482.out
                       have hnb90 := NB482_476.out
                       have hnc90 := NB476_482.out
                       have hcz91_0 := cz0 BK482.out
                       have hcz91_1 := cz1 BK482.out
                       have hcz91_2 := cz2 BK482.out
                       have hcz91_3 := cz3 BK482.out
                       have hcz91_4 := cz4 BK482.out
                       have hfz91_0 := fz BK482 0
                       have hfz91_1 := fz BK482 1
                       have hfz91_2 := fz BK482 2
                       have hfz91_3 := fz BK482 3
                       have hfz91_4 := fz BK482 4
                       go_wp2
                       repeat (go_quiet (fail); try go_wp2)
                       go_roundg k5
                       case measure => have := HJ2.out; have := HJ21.out; have := HK3.out; have := HK4.out; have := HK5.out; omega
                       case rel => exact ⟨(wrap64 (x7_5 + 1)), (x474000_5), (x474001_5), (x474002_5), (x474003_5), rq, H', ⟨by have := HJ2.out; have := HJ21.out; have := HK3.out; have := HK4.out; have := HK5.out; omega⟩, ⟨kB BK472⟩, ⟨kB BK473⟩, ⟨kB BK476⟩, ⟨kB BK482⟩, ⟨bs⟩⟩
                     ·
                      rw [if_neg c74] at H
                      exact absurd H (by simp)
                    ·
                     rw [if_neg c73] at H
                     exact absurd H (by simp)
                   ·
                    rw [if_neg c72] at H
                    have c72b0 : decide (x7_5 < x5_4) = false := decide_eq_false c72
                    clear c72
                    have HC92 := Am H
                    clear H
                    go_upto_region 29 with (fail)
                    repeat (go_quiet (fail); go_upto_region 29 with (fail))
                    go_cut [111] (fun v111 wc => ∃ (kq : Nat) (x111_91 : Bool), v111 = .bool x111_91 ∧ Aside0 (surmiseref05_Check.j5 kq x5_4 x111_91 l0_0 l0_1 l0_2 l0_3 = some (r1, r2, r3, r4)) ∧ Aside0 (kq ≤ k5) ∧ Aside0 (wc.heap[gb472]? = some (.cells #[(.slice A0_0 l0_0.length c0_0), (.slice A0_1 l0_1.length c0_1), (.slice A0_2 l0_2.length c0_2), (.slice (some ad481) l0_3.length c0_3)] 26 (0, 0))) ∧ Aside0 (wc.heap[gb473]? = some (.cells #[.int .i64 x474000_5, .int .i64 x474001_5, .int .i64 x474002_5, .int .i64 x474003_5] 30 (0, 0))) ∧ Aside0 (wc.heap[gb476]? = some (.cells #[.int .i64 t477, .int .i64 t478] 54 (0, 0))) ∧ Aside0 (wc.heap[gb482]? = some (.cells #[.string ((rd_T38 l0_3 x5_4).f0), .int .i64 ((rd_T38 l0_3 x5_4).f1), (.slice A481_2 ((rd_T38 l0_3 x5_4).f2).length c481_2), (.slice A481_3 ((rd_T38 l0_3 x5_4).f3).length c481_3), (.slice A481_4 ((rd_T38 l0_3 x5_4).f4).length c481_4)] 38 (0, 0))) ∧ Aside0 (Below w.heap.size w wc))
                    case first =>
                     have H := HC92.out
                     clear HC92
                     by_cases c93 : ((rd_T38 l0_3 x5_4).f1) < 0
                     ·
                      rw [if_pos c93] at H
                      have c93b0 : decide (((rd_T38 l0_3 x5_4).f1) < 0) = true := decide_eq_true c93
                      clear c93
                      (first | rw [c93b0] | (simp only [i64_w, i32_w]; rw [c93b0]) | skip)
                      have H' := Am H
                      clear H
                      have hnb94 := NB482_472.out
                      have hnc94 := NB472_482.out
                      have hnb95 := NB482_473.out
                      have hnc95 := NB473_482.out
                      have hnb96 := NB482_476.out
                      have hnc96 := NB476_482.out
                      have hcz97_0 := cz0 BK482.out
                      have hcz97_1 := cz1 BK482.out
                      have hcz97_2 := cz2 BK482.out
                      have hcz97_3 := cz3 BK482.out
                      have hcz97_4 := cz4 BK482.out
                      have hfz97_0 := fz BK482 0
                      have hfz97_1 := fz BK482 1
                      have hfz97_2 := fz BK482 2
                      have hfz97_3 := fz BK482 3
                      have hfz97_4 := fz BK482 4
                      go_wp2
                      repeat (go_quiet (fail); try go_wp2)
                      go_meet
                      case rel => exact ⟨_, (true), rq, H', ⟨by have := HJ2.out; have := HJ21.out; have := HK3.out; have := HK4.out; have := HK5.out; first | omega | exact Nat.le_refl _⟩, ⟨kB BK472⟩, ⟨kB BK473⟩, ⟨kB BK476⟩, ⟨kB BK482⟩, ⟨bs⟩⟩
                     ·
                      rw [if_neg c93] at H
                      have c93b0 : decide (((rd_T38 l0_3 x5_4).f1) < 0) = false := decide_eq_false c93
                      clear c93
                      (first | rw [c93b0] | (simp only [i64_w, i32_w]; rw [c93b0]) | skip)
                      have H' := Am H
                      clear H
                      have hnb98 := NB482_472.out
                      have hnc98 := NB472_482.out
                      have hnb99 := NB482_473.out
                      have hnc99 := NB473_482.out
                      have hnb100 := NB482_476.out
                      have hnc100 := NB476_482.out
                      have hcz101_0 := cz0 BK482.out
                      have hcz101_1 := cz1 BK482.out
                      have hcz101_2 := cz2 BK482.out
                      have hcz101_3 := cz3 BK482.out
                      have hcz101_4 := cz4 BK482.out
                      have hfz101_0 := fz BK482 0
                      have hfz101_1 := fz BK482 1
                      have hfz101_2 := fz BK482 2
                      have hfz101_3 := fz BK482 3
                      have hfz101_4 := fz BK482 4
                      go_wp2
                      repeat (go_quiet (fail); try go_wp2)
                      go_meet
                      case rel => exact ⟨_, (decide (((rd_T38 l0_3 x5_4).f1) > 4)), rq, H', ⟨by have := HJ2.out; have := HJ21.out; have := HK3.out; have := HK4.out; have := HK5.out; first | omega | exact Nat.le_refl _⟩, ⟨kB BK472⟩, ⟨kB BK473⟩, ⟨kB BK476⟩, ⟨kB BK482⟩, ⟨bs⟩⟩
                    case rest =>
                     clear HC92
                     try clear c1
                     try clear c2
                     try clear p2
                     try clear c3
                     try clear c4
                     try clear p4
                     try clear q4
                     try clear hx4
                     try clear c5
                     try clear c6
                     try clear p6
                     try clear c7
                     try clear c8
                     try clear c9
                     try clear c10
                     try clear c11
                     try clear c13
                     try clear c13b0
                     try clear c13b1
                     try clear c14
                     try clear c15
                     try clear c17
                     try clear c19
                     try clear c20
                     try clear c23
                     try clear c24
                     try clear c25
                     try clear c27
                     try clear c27b0
                     try clear c27b1
                     try clear c29
                     try clear c29b0
                     try clear c29b1
                     try clear c30
                     try clear c30b0
                     try clear c30b1
                     try clear c30b2
                     try clear c31
                     try clear c32
                     try clear c34
                     try clear c39
                     try clear c39b0
                     try clear c40
                     try clear c40b0
                     try clear c42
                     try clear c43
                     try clear c44
                     try clear c46
                     try clear c47
                     try clear p47
                     try clear q47
                     try clear hx47
                     try clear c48
                     try clear p48
                     try clear q48
                     try clear hx48
                     try clear c49
                     try clear c51
                     try clear c51b0
                     try clear c51b1
                     try clear c52
                     try clear c53
                     try clear c55
                     try clear c57
                     try clear c58
                     try clear c60
                     try clear c60b0
                     try clear c61
                     try clear c61b0
                     try clear c63
                     try clear c64
                     try clear p64
                     try clear c65
                     try clear c68
                     try clear c69
                     try clear c70
                     try clear c72
                     try clear c72b0
                     try clear c73
                     try clear c73b0
                     try clear c74
                     try clear c74b0
                     try clear c75
                     try clear c75b0
                     try clear c75b1
                     try clear c76
                     try clear c77
                     try clear c78
                     try clear c80
                     try clear c81
                     try clear c83
                     try clear c85
                     try clear c86
                     try clear c87
                     try clear c89
                     try clear c90
                     try clear c93
                     try clear c93b0
                     try clear c94
                     try clear c95
                     try clear c96
                     try clear c98
                     try clear c99
                     try clear c100
                     try clear hcz101_0
                     try clear hcz101_1
                     try clear hcz101_2
                     try clear hcz101_3
                     try clear hcz101_4
                     try clear hcz12_0
                     try clear hcz12_1
                     try clear hcz16_0
                     try clear hcz16_1
                     try clear hcz18_0
                     try clear hcz18_1
                     try clear hcz18_2
                     try clear hcz18_3
                     try clear hcz21_0
                     try clear hcz21_1
                     try clear hcz26_0
                     try clear hcz26_1
                     try clear hcz33_0
                     try clear hcz33_1
                     try clear hcz35_0
                     try clear hcz35_1
                     try clear hcz35_2
                     try clear hcz35_3
                     try clear hcz37_0
                     try clear hcz37_1
                     try clear hcz38_0
                     try clear hcz38_1
                     try clear hcz38_2
                     try clear hcz38_3
                     try clear hcz45_0
                     try clear hcz45_1
                     try clear hcz45_2
                     try clear hcz45_3
                     try clear hcz48_0
                     try clear hcz48_1
                     try clear hcz48_2
                     try clear hcz48_3
                     try clear hcz50_0
                     try clear hcz50_1
                     try clear hcz50_2
                     try clear hcz50_3
                     try clear hcz54_0
                     try clear hcz54_1
                     try clear hcz54_2
                     try clear hcz54_3
                     try clear hcz56_0
                     try clear hcz56_1
                     try clear hcz56_2
                     try clear hcz56_3
                     try clear hcz59_0
                     try clear hcz59_1
                     try clear hcz59_2
                     try clear hcz59_3
                     try clear hcz66_0
                     try clear hcz66_1
                     try clear hcz66_2
                     try clear hcz66_3
                     try clear hcz71_0
                     try clear hcz71_1
                     try clear hcz71_2
                     try clear hcz71_3
                     try clear hcz71_4
                     try clear hcz79_0
                     try clear hcz79_1
                     try clear hcz79_2
                     try clear hcz79_3
                     try clear hcz7_0
                     try clear hcz7_1
                     try clear hcz7_2
                     try clear hcz7_3
                     try clear hcz82_0
                     try clear hcz82_1
                     try clear hcz82_2
                     try clear hcz82_3
                     try clear hcz82_4
                     try clear hcz84_0
                     try clear hcz84_1
                     try clear hcz84_2
                     try clear hcz84_3
                     try clear hcz88_0
                     try clear hcz88_1
                     try clear hcz88_2
                     try clear hcz88_3
                     try clear hcz91_0
                     try clear hcz91_1
                     try clear hcz91_2
                     try clear hcz91_3
                     try clear hcz91_4
                     try clear hcz97_0
                     try clear hcz97_1
                     try clear hcz97_2
                     try clear hcz97_3
                     try clear hcz97_4
                     try clear hfz101_0
                     try clear hfz101_1
                     try clear hfz101_2
                     try clear hfz101_3
                     try clear hfz101_4
                     try clear hfz12_0
                     try clear hfz12_1
                     try clear hfz16_0
                     try clear hfz16_1
                     try clear hfz18_0
                     try clear hfz18_1
                     try clear hfz18_2
                     try clear hfz18_3
                     try clear hfz21_0
                     try clear hfz21_1
                     try clear hfz26_0
                     try clear hfz26_1
                     try clear hfz33_0
                     try clear hfz33_1
                     try clear hfz35_0
                     try clear hfz35_1
                     try clear hfz35_2
                     try clear hfz35_3
                     try clear hfz37_0
                     try clear hfz37_1
                     try clear hfz38_0
                     try clear hfz38_1
                     try clear hfz38_2
                     try clear hfz38_3
                     try clear hfz45_0
                     try clear hfz45_1
                     try clear hfz45_2
                     try clear hfz45_3
                     try clear hfz48_0
                     try clear hfz48_1
                     try clear hfz48_2
                     try clear hfz48_3
                     try clear hfz50_0
                     try clear hfz50_1
                     try clear hfz50_2
                     try clear hfz50_3
                     try clear hfz54_0
                     try clear hfz54_1
                     try clear hfz54_2
                     try clear hfz54_3
                     try clear hfz56_0
                     try clear hfz56_1
                     try clear hfz56_2
                     try clear hfz56_3
                     try clear hfz59_0
                     try clear hfz59_1
                     try clear hfz59_2
                     try clear hfz59_3
                     try clear hfz66_0
                     try clear hfz66_1
                     try clear hfz66_2
                     try clear hfz66_3
                     try clear hfz71_0
                     try clear hfz71_1
                     try clear hfz71_2
                     try clear hfz71_3
                     try clear hfz71_4
                     try clear hfz79_0
                     try clear hfz79_1
                     try clear hfz79_2
                     try clear hfz79_3
                     try clear hfz7_0
                     try clear hfz7_1
                     try clear hfz7_2
                     try clear hfz7_3
                     try clear hfz82_0
                     try clear hfz82_1
                     try clear hfz82_2
                     try clear hfz82_3
                     try clear hfz82_4
                     try clear hfz84_0
                     try clear hfz84_1
                     try clear hfz84_2
                     try clear hfz84_3
                     try clear hfz88_0
                     try clear hfz88_1
                     try clear hfz88_2
                     try clear hfz88_3
                     try clear hfz91_0
                     try clear hfz91_1
                     try clear hfz91_2
                     try clear hfz91_3
                     try clear hfz91_4
                     try clear hfz97_0
                     try clear hfz97_1
                     try clear hfz97_2
                     try clear hfz97_3
                     try clear hfz97_4
                     try clear hx479_0
                     try clear hx481_0
                     try clear hx481_1
                     try clear hx481_2
                     try clear hx481_3
                     try clear hx481_4
                     try clear hx484_0
                     try clear hx484_1
                     try clear hx484_2
                     try clear hx484_3
                     try clear hx484_4
                     try clear p2
                     try clear p4
                     try clear p47
                     try clear p479
                     try clear p48
                     try clear p481
                     try clear p484
                     try clear p6
                     try clear p64
                     try clear q4
                     try clear q47
                     try clear q479
                     try clear q48
                     try clear q481
                     try clear q484
                     obtain ⟨kq, x111_91, rfl, HA, HJ91, BK472, BK473, BK476, BK482, HB⟩ := hcut
                     cases kq with
                     | zero => exact absurd HA.out (by simp [surmiseref05_Check.j5])
                     | succ kj91 =>
                      have H := HA.out
                      clear HA
                      simp only [surmiseref05_Check.j5] at H
                      by_cases c102 : x111_91 = true
                      ·
                       subst c102
                       have H1 : (some (3, x5_4, 6, 0)) = some (r1, r2, r3, r4) := by rw [if_pos rfl] at H; exact H
                       clear H
                       have H := H1
                       clear H1
                       simp only [Option.some.injEq, Prod.mk.injEq] at H
                       obtain ⟨rfl, rfl, rfl, rfl⟩ := H
                       have hnb103 := NB473_472.out
                       have hnc103 := NB472_473.out
                       have hnb104 := NB473_476.out
                       have hnc104 := NB476_473.out
                       have hnb105 := NB473_482.out
                       have hnc105 := NB482_473.out
                       have hcz106_0 := cz0 BK473.out
                       have hcz106_1 := cz1 BK473.out
                       have hcz106_2 := cz2 BK473.out
                       have hcz106_3 := cz3 BK473.out
                       have hfz106_0 := fz BK473 0
                       have hfz106_1 := fz BK473 1
                       have hfz106_2 := fz BK473 2
                       have hfz106_3 := fz BK473 3
                       go_wp2
                       repeat (go_quiet (fail); try go_wp2)
                       refine bodyPost_ret (results_cell_row rfl _ _ gb473 30 #[.int .i64 3, .int .i64 x5_4, .int .i64 6, .int .i64 0] (0, 0) _ rfl (by (with_reducible repeat (first | refine blk_drewN ?_ _ | refine blk_drew ?_ | refine blk_alloc ?_ _)); refine blk_put (cs := #[.int .i64 3, .int .i64 x5_4, .int .i64 6, .int .i64 x474003_5]) ?_ 3 _ rfl; (with_reducible repeat (first | refine blk_drewN ?_ _ | refine blk_drew ?_ | refine blk_alloc ?_ _)); refine blk_put (cs := #[.int .i64 3, .int .i64 x5_4, .int .i64 x474002_5, .int .i64 x474003_5]) ?_ 2 _ rfl; (with_reducible repeat (first | refine blk_drewN ?_ _ | refine blk_drew ?_ | refine blk_alloc ?_ _)); refine blk_put (cs := #[.int .i64 3, .int .i64 x474001_5, .int .i64 x474002_5, .int .i64 x474003_5]) ?_ 1 _ rfl; (with_reducible repeat (first | refine blk_drewN ?_ _ | refine blk_drew ?_ | refine blk_alloc ?_ _)); refine blk_put (cs := #[.int .i64 x474000_5, .int .i64 x474001_5, .int .i64 x474002_5, .int .i64 x474003_5]) ?_ 0 _ rfl; (with_reducible repeat (first | refine blk_drewN ?_ _ | refine blk_drew ?_ | refine blk_alloc ?_ _)); exact BK473.out) Try.underlying30 rfl (by kernel_rfl)) rfl ?_
                       exact ⟨xq, bs⟩
                      ·
                       replace c102 := Bool.eq_false_iff.mpr c102
                       subst c102
                       have H1 : ((surmiseref05_rule.f kj91 l0_0 l0_1 l0_2 l0_3 x5_4).bind fun bt485 => (if bt485.1 = 0 then (surmiseref05_Check.l1 kj91 (wrap64 (x5_4 + 1)) l0_0 l0_1 l0_2 l0_3) else (some (bt485.1, bt485.2.1, bt485.2.2.1, bt485.2.2.2)))) = some (r1, r2, r3, r4) := by rw [if_neg (show ¬ (false = true) by decide)] at H; exact H
                       clear H
                       have H := H1
                       clear H1
                       obtain ⟨⟨t485, t486, t487, t488⟩, A1070, H⟩ := Option.bind_eq_some_iff.mp H
                       replace H : (if t485 = 0 then (surmiseref05_Check.l1 kj91 (wrap64 (x5_4 + 1)) l0_0 l0_1 l0_2 l0_3) else (some (t485, t486, t487, t488))) = some (r1, r2, r3, r4) := H
                       have A107 := Am A1070
                       clear A1070
                       by_cases c108 : t485 = 0
                       ·
                        rw [if_pos c108] at H
                        have c108b0 : (t485 == 0) = true := beq_iff_eq.mpr c108
                        have c108b1 : (t485 != 0) = false := bne_eq_false_iff_eq.mpr c108
                        clear c108
                        have H' := Am H
                        clear H
                        have hnb109 := NB472_473.out
                        have hnc109 := NB473_472.out
                        have hnb110 := NB472_476.out
                        have hnc110 := NB476_472.out
                        have hnb111 := NB472_482.out
                        have hnc111 := NB482_472.out
                        have hcz112_0 := cz0 BK472.out
                        have hcz112_1 := cz1 BK472.out
                        have hcz112_2 := cz2 BK472.out
                        have hcz112_3 := cz3 BK472.out
                        have hfz112_0 := fz BK472 0
                        have hfz112_1 := fz BK472 1
                        have hfz112_2 := fz BK472 2
                        have hfz112_3 := fz BK472 3
                        go_wp2_with (first | (go_at_call 33; (with_reducible refine (surmiseref05_rule.calls kj91 _ _ l0_0 _ _ l0_1 _ _ l0_2 _ _ l0_3 x5_4 t485 t486 t487 t488 _ ?side1 ?side2 ?side3 ?side4 ?side5 ?side6 ?side7 ?side8 A107.out).mono ?_); (case side1 => exact kC HR0_0); (case side2 => exact HC0_0.out); (case side3 => exact kC HR0_1); (case side4 => exact HC0_1.out); (case side5 => exact kC HR0_2); (case side6 => exact HC0_2.out); (case side7 => exact kC HR0_3); (case side8 => exact HC0_3.out); rintro e w113 ⟨rfl, hb⟩; have n0_ := Am (blk_below (kB BK472) hb); have n1_ := Am (blk_below (kB BK473) hb); have n2_ := Am (blk_below (kB BK476) hb); have n3_ := Am (blk_below (kB BK482) hb); have n4_ := Am (below_step (bs) hb); clear BK472; clear BK473; clear BK476; clear BK482; clear HB; have BK472 := n0_; have BK473 := n1_; have BK476 := n2_; have BK482 := n3_; have HB := n4_; clear n0_ n1_ n2_ n3_ n4_; (try clear hb); (try clear hb2); (try clear hk); (try clear hi)) | ((with_reducible refine gate_dst (N := 8) rfl ?_); (try (refine gate_guard (by rfl) ?_; dsimp only)); refine bxe (N := 8) (cs := #[.int .i64 0, .int .i64 0, .int .i64 0, .int .i64 0]) (t := 30) ?_; intro gb489 hg w114 hbox hb; have n0_ := Am (blk_below (kB BK472) hb); have n1_ := Am (blk_below (kB BK473) hb); have n2_ := Am (blk_below (kB BK476) hb); have n3_ := Am (blk_below (kB BK482) hb); have n4_ := Am (below_step (bs) hb); have n5_ := Am (hbox); have n6_ := Am ((gE hg : w.heap.size ≤ gb489)); have n7_ := Am ((gE hg : w.heap.size ≤ gb489)); have n8_ := Am (nL hg BK472); have n9_ := Am (nG hg BK472); have n10_ := Am (nL hg BK473); have n11_ := Am (nG hg BK473); have n12_ := Am (nL hg BK476); have n13_ := Am (nG hg BK476); have n14_ := Am (nL hg BK482); have n15_ := Am (nG hg BK482); clear BK472; clear BK473; clear BK476; clear BK482; clear HB; have BK472 := n0_; have BK473 := n1_; have BK476 := n2_; have BK482 := n3_; have HB := n4_; have BK489 := n5_; have GW489 := n6_; have GE489 := n7_; have NB472_489 := n8_; have NB489_472 := n9_; have NB473_489 := n10_; have NB489_473 := n11_; have NB476_489 := n12_; have NB489_476 := n13_; have NB482_489 := n14_; have NB489_482 := n15_; clear n0_ n1_ n2_ n3_ n4_ n5_ n6_ n7_ n8_ n9_ n10_ n11_ n12_ n13_ n14_ n15_; clear hb hbox hg; have hnb115 := NB489_472.out; have hnc115 := NB472_489.out; have hnb116 := NB489_473.out; have hnc116 := NB473_489.out; have hnb117 := NB489_476.out; have hnc117 := NB476_489.out; have hnb118 := NB489_482.out; have hnc118 := NB482_489.out; have hcz119_0 := cz0 BK489.out; have hcz119_1 := cz1 BK489.out; have hcz119_2 := cz2 BK489.out; have hcz119_3 := cz3 BK489.out; have hfz119_0 := fz BK489 0; have hfz119_1 := fz BK489 1; have hfz119_2 := fz BK489 2; have hfz119_3 := fz BK489 3))
                        repeat (go_quiet (first | (go_at_call 33; (with_reducible refine (surmiseref05_rule.calls kj91 _ _ l0_0 _ _ l0_1 _ _ l0_2 _ _ l0_3 x5_4 t485 t486 t487 t488 _ ?side1 ?side2 ?side3 ?side4 ?side5 ?side6 ?side7 ?side8 A107.out).mono ?_); (case side1 => exact kC HR0_0); (case side2 => exact HC0_0.out); (case side3 => exact kC HR0_1); (case side4 => exact HC0_1.out); (case side5 => exact kC HR0_2); (case side6 => exact HC0_2.out); (case side7 => exact kC HR0_3); (case side8 => exact HC0_3.out); rintro e w113 ⟨rfl, hb⟩; have n0_ := Am (blk_below (kB BK472) hb); have n1_ := Am (blk_below (kB BK473) hb); have n2_ := Am (blk_below (kB BK476) hb); have n3_ := Am (blk_below (kB BK482) hb); have n4_ := Am (below_step (bs) hb); clear BK472; clear BK473; clear BK476; clear BK482; clear HB; have BK472 := n0_; have BK473 := n1_; have BK476 := n2_; have BK482 := n3_; have HB := n4_; clear n0_ n1_ n2_ n3_ n4_; (try clear hb); (try clear hb2); (try clear hk); (try clear hi)) | ((with_reducible refine gate_dst (N := 8) rfl ?_); (try (refine gate_guard (by rfl) ?_; dsimp only)); refine bxe (N := 8) (cs := #[.int .i64 0, .int .i64 0, .int .i64 0, .int .i64 0]) (t := 30) ?_; intro gb489 hg w114 hbox hb; have n0_ := Am (blk_below (kB BK472) hb); have n1_ := Am (blk_below (kB BK473) hb); have n2_ := Am (blk_below (kB BK476) hb); have n3_ := Am (blk_below (kB BK482) hb); have n4_ := Am (below_step (bs) hb); have n5_ := Am (hbox); have n6_ := Am ((gE hg : w.heap.size ≤ gb489)); have n7_ := Am ((gE hg : w.heap.size ≤ gb489)); have n8_ := Am (nL hg BK472); have n9_ := Am (nG hg BK472); have n10_ := Am (nL hg BK473); have n11_ := Am (nG hg BK473); have n12_ := Am (nL hg BK476); have n13_ := Am (nG hg BK476); have n14_ := Am (nL hg BK482); have n15_ := Am (nG hg BK482); clear BK472; clear BK473; clear BK476; clear BK482; clear HB; have BK472 := n0_; have BK473 := n1_; have BK476 := n2_; have BK482 := n3_; have HB := n4_; have BK489 := n5_; have GW489 := n6_; have GE489 := n7_; have NB472_489 := n8_; have NB489_472 := n9_; have NB473_489 := n10_; have NB489_473 := n11_; have NB476_489 := n12_; have NB489_476 := n13_; have NB482_489 := n14_; have NB489_482 := n15_; clear n0_ n1_ n2_ n3_ n4_ n5_ n6_ n7_ n8_ n9_ n10_ n11_ n12_ n13_ n14_ n15_; clear hb hbox hg; have hnb115 := NB489_472.out; have hnc115 := NB472_489.out; have hnb116 := NB489_473.out; have hnc116 := NB473_489.out; have hnb117 := NB489_476.out; have hnc117 := NB476_489.out; have hnb118 := NB489_482.out; have hnc118 := NB482_489.out; have hcz119_0 := cz0 BK489.out; have hcz119_1 := cz1 BK489.out; have hcz119_2 := cz2 BK489.out; have hcz119_3 := cz3 BK489.out; have hfz119_0 := fz BK489 0; have hfz119_1 := fz BK489 1; have hfz119_2 := fz BK489 2; have hfz119_3 := fz BK489 3)); try go_wp2_with (first | (go_at_call 33; (with_reducible refine (surmiseref05_rule.calls kj91 _ _ l0_0 _ _ l0_1 _ _ l0_2 _ _ l0_3 x5_4 t485 t486 t487 t488 _ ?side1 ?side2 ?side3 ?side4 ?side5 ?side6 ?side7 ?side8 A107.out).mono ?_); (case side1 => exact kC HR0_0); (case side2 => exact HC0_0.out); (case side3 => exact kC HR0_1); (case side4 => exact HC0_1.out); (case side5 => exact kC HR0_2); (case side6 => exact HC0_2.out); (case side7 => exact kC HR0_3); (case side8 => exact HC0_3.out); rintro e w113 ⟨rfl, hb⟩; have n0_ := Am (blk_below (kB BK472) hb); have n1_ := Am (blk_below (kB BK473) hb); have n2_ := Am (blk_below (kB BK476) hb); have n3_ := Am (blk_below (kB BK482) hb); have n4_ := Am (below_step (bs) hb); clear BK472; clear BK473; clear BK476; clear BK482; clear HB; have BK472 := n0_; have BK473 := n1_; have BK476 := n2_; have BK482 := n3_; have HB := n4_; clear n0_ n1_ n2_ n3_ n4_; (try clear hb); (try clear hb2); (try clear hk); (try clear hi)) | ((with_reducible refine gate_dst (N := 8) rfl ?_); (try (refine gate_guard (by rfl) ?_; dsimp only)); refine bxe (N := 8) (cs := #[.int .i64 0, .int .i64 0, .int .i64 0, .int .i64 0]) (t := 30) ?_; intro gb489 hg w114 hbox hb; have n0_ := Am (blk_below (kB BK472) hb); have n1_ := Am (blk_below (kB BK473) hb); have n2_ := Am (blk_below (kB BK476) hb); have n3_ := Am (blk_below (kB BK482) hb); have n4_ := Am (below_step (bs) hb); have n5_ := Am (hbox); have n6_ := Am ((gE hg : w.heap.size ≤ gb489)); have n7_ := Am ((gE hg : w.heap.size ≤ gb489)); have n8_ := Am (nL hg BK472); have n9_ := Am (nG hg BK472); have n10_ := Am (nL hg BK473); have n11_ := Am (nG hg BK473); have n12_ := Am (nL hg BK476); have n13_ := Am (nG hg BK476); have n14_ := Am (nL hg BK482); have n15_ := Am (nG hg BK482); clear BK472; clear BK473; clear BK476; clear BK482; clear HB; have BK472 := n0_; have BK473 := n1_; have BK476 := n2_; have BK482 := n3_; have HB := n4_; have BK489 := n5_; have GW489 := n6_; have GE489 := n7_; have NB472_489 := n8_; have NB489_472 := n9_; have NB473_489 := n10_; have NB489_473 := n11_; have NB476_489 := n12_; have NB489_476 := n13_; have NB482_489 := n14_; have NB489_482 := n15_; clear n0_ n1_ n2_ n3_ n4_ n5_ n6_ n7_ n8_ n9_ n10_ n11_ n12_ n13_ n14_ n15_; clear hb hbox hg; have hnb115 := NB489_472.out; have hnc115 := NB472_489.out; have hnb116 := NB489_473.out; have hnc116 := NB473_489.out; have hnb117 := NB489_476.out; have hnc117 := NB476_489.out; have hnb118 := NB489_482.out; have hnc118 := NB482_489.out; have hcz119_0 := cz0 BK489.out; have hcz119_1 := cz1 BK489.out; have hcz119_2 := cz2 BK489.out; have hcz119_3 := cz3 BK489.out; have hfz119_0 := fz BK489 0; have hfz119_1 := fz BK489 1; have hfz119_2 := fz BK489 2; have hfz119_3 := fz BK489 3)))
                        go_roundg kj91
                        case measure => have := HJ2.out; have := HJ21.out; have := HK3.out; have := HK4.out; have := HK5.out; have := HJ91.out; omega
                        case rel => exact ⟨(wrap64 (x5_4 + 1)), (x474000_5), (x474001_5), (x474002_5), (x474003_5), rq, H', ⟨by have := HJ2.out; have := HJ21.out; have := HK3.out; have := HK4.out; have := HK5.out; have := HJ91.out; omega⟩, ⟨kZ BK472⟩, ⟨kZ BK473⟩, ⟨kZ BK476⟩, ⟨bs⟩⟩
                       ·
                        rw [if_neg c108] at H
                        have c108b0 : (t485 == 0) = false := beq_eq_false_iff_ne.mpr c108
                        have c108b1 : (t485 != 0) = true := bne_iff_ne.mpr c108
                        simp only [Option.some.injEq, Prod.mk.injEq] at H
                        obtain ⟨rfl, rfl, rfl, rfl⟩ := H
                        have hnb120 := NB472_473.out
                        have hnc120 := NB473_472.out
                        have hnb121 := NB472_476.out
                        have hnc121 := NB476_472.out
                        have hnb122 := NB472_482.out
                        have hnc122 := NB482_472.out
                        have hcz123_0 := cz0 BK472.out
                        have hcz123_1 := cz1 BK472.out
                        have hcz123_2 := cz2 BK472.out
                        have hcz123_3 := cz3 BK472.out
                        have hfz123_0 := fz BK472 0
                        have hfz123_1 := fz BK472 1
                        have hfz123_2 := fz BK472 2
                        have hfz123_3 := fz BK472 3
                        go_wp2_with (first | (go_at_call 33; (with_reducible refine (surmiseref05_rule.calls kj91 _ _ l0_0 _ _ l0_1 _ _ l0_2 _ _ l0_3 x5_4 t485 t486 t487 t488 _ ?side1 ?side2 ?side3 ?side4 ?side5 ?side6 ?side7 ?side8 A107.out).mono ?_); (case side1 => exact kC HR0_0); (case side2 => exact HC0_0.out); (case side3 => exact kC HR0_1); (case side4 => exact HC0_1.out); (case side5 => exact kC HR0_2); (case side6 => exact HC0_2.out); (case side7 => exact kC HR0_3); (case side8 => exact HC0_3.out); rintro e w124 ⟨rfl, hb⟩; have n0_ := Am (blk_below (kB BK472) hb); have n1_ := Am (blk_below (kB BK473) hb); have n2_ := Am (blk_below (kB BK476) hb); have n3_ := Am (blk_below (kB BK482) hb); have n4_ := Am (below_step (bs) hb); clear BK472; clear BK473; clear BK476; clear BK482; clear HB; have BK472 := n0_; have BK473 := n1_; have BK476 := n2_; have BK482 := n3_; have HB := n4_; clear n0_ n1_ n2_ n3_ n4_; (try clear hb); (try clear hb2); (try clear hk); (try clear hi)) | ((with_reducible refine gate_dst (N := 8) rfl ?_); (try (refine gate_guard (by rfl) ?_; dsimp only)); refine bxe (N := 8) (cs := #[.int .i64 0, .int .i64 0, .int .i64 0, .int .i64 0]) (t := 30) ?_; intro gb489 hg w125 hbox hb; have n0_ := Am (blk_below (kB BK472) hb); have n1_ := Am (blk_below (kB BK473) hb); have n2_ := Am (blk_below (kB BK476) hb); have n3_ := Am (blk_below (kB BK482) hb); have n4_ := Am (below_step (bs) hb); have n5_ := Am (hbox); have n6_ := Am ((gE hg : w.heap.size ≤ gb489)); have n7_ := Am ((gE hg : w.heap.size ≤ gb489)); have n8_ := Am (nL hg BK472); have n9_ := Am (nG hg BK472); have n10_ := Am (nL hg BK473); have n11_ := Am (nG hg BK473); have n12_ := Am (nL hg BK476); have n13_ := Am (nG hg BK476); have n14_ := Am (nL hg BK482); have n15_ := Am (nG hg BK482); clear BK472; clear BK473; clear BK476; clear BK482; clear HB; have BK472 := n0_; have BK473 := n1_; have BK476 := n2_; have BK482 := n3_; have HB := n4_; have BK489 := n5_; have GW489 := n6_; have GE489 := n7_; have NB472_489 := n8_; have NB489_472 := n9_; have NB473_489 := n10_; have NB489_473 := n11_; have NB476_489 := n12_; have NB489_476 := n13_; have NB482_489 := n14_; have NB489_482 := n15_; clear n0_ n1_ n2_ n3_ n4_ n5_ n6_ n7_ n8_ n9_ n10_ n11_ n12_ n13_ n14_ n15_; clear hb hbox hg; have hnb126 := NB489_472.out; have hnc126 := NB472_489.out; have hnb127 := NB489_473.out; have hnc127 := NB473_489.out; have hnb128 := NB489_476.out; have hnc128 := NB476_489.out; have hnb129 := NB489_482.out; have hnc129 := NB482_489.out; have hcz130_0 := cz0 BK489.out; have hcz130_1 := cz1 BK489.out; have hcz130_2 := cz2 BK489.out; have hcz130_3 := cz3 BK489.out; have hfz130_0 := fz BK489 0; have hfz130_1 := fz BK489 1; have hfz130_2 := fz BK489 2; have hfz130_3 := fz BK489 3; have hnb131 := NB473_476.out; have hnc131 := NB476_473.out; have hnb132 := NB473_482.out; have hnc132 := NB482_473.out; have hcz133_0 := cz0 BK473.out; have hcz133_1 := cz1 BK473.out; have hcz133_2 := cz2 BK473.out; have hcz133_3 := cz3 BK473.out; have hfz133_0 := fz BK473 0; have hfz133_1 := fz BK473 1; have hfz133_2 := fz BK473 2; have hfz133_3 := fz BK473 3))
                        repeat (go_quiet (first | (go_at_call 33; (with_reducible refine (surmiseref05_rule.calls kj91 _ _ l0_0 _ _ l0_1 _ _ l0_2 _ _ l0_3 x5_4 t485 t486 t487 t488 _ ?side1 ?side2 ?side3 ?side4 ?side5 ?side6 ?side7 ?side8 A107.out).mono ?_); (case side1 => exact kC HR0_0); (case side2 => exact HC0_0.out); (case side3 => exact kC HR0_1); (case side4 => exact HC0_1.out); (case side5 => exact kC HR0_2); (case side6 => exact HC0_2.out); (case side7 => exact kC HR0_3); (case side8 => exact HC0_3.out); rintro e w124 ⟨rfl, hb⟩; have n0_ := Am (blk_below (kB BK472) hb); have n1_ := Am (blk_below (kB BK473) hb); have n2_ := Am (blk_below (kB BK476) hb); have n3_ := Am (blk_below (kB BK482) hb); have n4_ := Am (below_step (bs) hb); clear BK472; clear BK473; clear BK476; clear BK482; clear HB; have BK472 := n0_; have BK473 := n1_; have BK476 := n2_; have BK482 := n3_; have HB := n4_; clear n0_ n1_ n2_ n3_ n4_; (try clear hb); (try clear hb2); (try clear hk); (try clear hi)) | ((with_reducible refine gate_dst (N := 8) rfl ?_); (try (refine gate_guard (by rfl) ?_; dsimp only)); refine bxe (N := 8) (cs := #[.int .i64 0, .int .i64 0, .int .i64 0, .int .i64 0]) (t := 30) ?_; intro gb489 hg w125 hbox hb; have n0_ := Am (blk_below (kB BK472) hb); have n1_ := Am (blk_below (kB BK473) hb); have n2_ := Am (blk_below (kB BK476) hb); have n3_ := Am (blk_below (kB BK482) hb); have n4_ := Am (below_step (bs) hb); have n5_ := Am (hbox); have n6_ := Am ((gE hg : w.heap.size ≤ gb489)); have n7_ := Am ((gE hg : w.heap.size ≤ gb489)); have n8_ := Am (nL hg BK472); have n9_ := Am (nG hg BK472); have n10_ := Am (nL hg BK473); have n11_ := Am (nG hg BK473); have n12_ := Am (nL hg BK476); have n13_ := Am (nG hg BK476); have n14_ := Am (nL hg BK482); have n15_ := Am (nG hg BK482); clear BK472; clear BK473; clear BK476; clear BK482; clear HB; have BK472 := n0_; have BK473 := n1_; have BK476 := n2_; have BK482 := n3_; have HB := n4_; have BK489 := n5_; have GW489 := n6_; have GE489 := n7_; have NB472_489 := n8_; have NB489_472 := n9_; have NB473_489 := n10_; have NB489_473 := n11_; have NB476_489 := n12_; have NB489_476 := n13_; have NB482_489 := n14_; have NB489_482 := n15_; clear n0_ n1_ n2_ n3_ n4_ n5_ n6_ n7_ n8_ n9_ n10_ n11_ n12_ n13_ n14_ n15_; clear hb hbox hg; have hnb126 := NB489_472.out; have hnc126 := NB472_489.out; have hnb127 := NB489_473.out; have hnc127 := NB473_489.out; have hnb128 := NB489_476.out; have hnc128 := NB476_489.out; have hnb129 := NB489_482.out; have hnc129 := NB482_489.out; have hcz130_0 := cz0 BK489.out; have hcz130_1 := cz1 BK489.out; have hcz130_2 := cz2 BK489.out; have hcz130_3 := cz3 BK489.out; have hfz130_0 := fz BK489 0; have hfz130_1 := fz BK489 1; have hfz130_2 := fz BK489 2; have hfz130_3 := fz BK489 3; have hnb131 := NB473_476.out; have hnc131 := NB476_473.out; have hnb132 := NB473_482.out; have hnc132 := NB482_473.out; have hcz133_0 := cz0 BK473.out; have hcz133_1 := cz1 BK473.out; have hcz133_2 := cz2 BK473.out; have hcz133_3 := cz3 BK473.out; have hfz133_0 := fz BK473 0; have hfz133_1 := fz BK473 1; have hfz133_2 := fz BK473 2; have hfz133_3 := fz BK473 3)); try go_wp2_with (first | (go_at_call 33; (with_reducible refine (surmiseref05_rule.calls kj91 _ _ l0_0 _ _ l0_1 _ _ l0_2 _ _ l0_3 x5_4 t485 t486 t487 t488 _ ?side1 ?side2 ?side3 ?side4 ?side5 ?side6 ?side7 ?side8 A107.out).mono ?_); (case side1 => exact kC HR0_0); (case side2 => exact HC0_0.out); (case side3 => exact kC HR0_1); (case side4 => exact HC0_1.out); (case side5 => exact kC HR0_2); (case side6 => exact HC0_2.out); (case side7 => exact kC HR0_3); (case side8 => exact HC0_3.out); rintro e w124 ⟨rfl, hb⟩; have n0_ := Am (blk_below (kB BK472) hb); have n1_ := Am (blk_below (kB BK473) hb); have n2_ := Am (blk_below (kB BK476) hb); have n3_ := Am (blk_below (kB BK482) hb); have n4_ := Am (below_step (bs) hb); clear BK472; clear BK473; clear BK476; clear BK482; clear HB; have BK472 := n0_; have BK473 := n1_; have BK476 := n2_; have BK482 := n3_; have HB := n4_; clear n0_ n1_ n2_ n3_ n4_; (try clear hb); (try clear hb2); (try clear hk); (try clear hi)) | ((with_reducible refine gate_dst (N := 8) rfl ?_); (try (refine gate_guard (by rfl) ?_; dsimp only)); refine bxe (N := 8) (cs := #[.int .i64 0, .int .i64 0, .int .i64 0, .int .i64 0]) (t := 30) ?_; intro gb489 hg w125 hbox hb; have n0_ := Am (blk_below (kB BK472) hb); have n1_ := Am (blk_below (kB BK473) hb); have n2_ := Am (blk_below (kB BK476) hb); have n3_ := Am (blk_below (kB BK482) hb); have n4_ := Am (below_step (bs) hb); have n5_ := Am (hbox); have n6_ := Am ((gE hg : w.heap.size ≤ gb489)); have n7_ := Am ((gE hg : w.heap.size ≤ gb489)); have n8_ := Am (nL hg BK472); have n9_ := Am (nG hg BK472); have n10_ := Am (nL hg BK473); have n11_ := Am (nG hg BK473); have n12_ := Am (nL hg BK476); have n13_ := Am (nG hg BK476); have n14_ := Am (nL hg BK482); have n15_ := Am (nG hg BK482); clear BK472; clear BK473; clear BK476; clear BK482; clear HB; have BK472 := n0_; have BK473 := n1_; have BK476 := n2_; have BK482 := n3_; have HB := n4_; have BK489 := n5_; have GW489 := n6_; have GE489 := n7_; have NB472_489 := n8_; have NB489_472 := n9_; have NB473_489 := n10_; have NB489_473 := n11_; have NB476_489 := n12_; have NB489_476 := n13_; have NB482_489 := n14_; have NB489_482 := n15_; clear n0_ n1_ n2_ n3_ n4_ n5_ n6_ n7_ n8_ n9_ n10_ n11_ n12_ n13_ n14_ n15_; clear hb hbox hg; have hnb126 := NB489_472.out; have hnc126 := NB472_489.out; have hnb127 := NB489_473.out; have hnc127 := NB473_489.out; have hnb128 := NB489_476.out; have hnc128 := NB476_489.out; have hnb129 := NB489_482.out; have hnc129 := NB482_489.out; have hcz130_0 := cz0 BK489.out; have hcz130_1 := cz1 BK489.out; have hcz130_2 := cz2 BK489.out; have hcz130_3 := cz3 BK489.out; have hfz130_0 := fz BK489 0; have hfz130_1 := fz BK489 1; have hfz130_2 := fz BK489 2; have hfz130_3 := fz BK489 3; have hnb131 := NB473_476.out; have hnc131 := NB476_473.out; have hnb132 := NB473_482.out; have hnc132 := NB482_473.out; have hcz133_0 := cz0 BK473.out; have hcz133_1 := cz1 BK473.out; have hcz133_2 := cz2 BK473.out; have hcz133_3 := cz3 BK473.out; have hfz133_0 := fz BK473 0; have hfz133_1 := fz BK473 1; have hfz133_2 := fz BK473 2; have hfz133_3 := fz BK473 3)))
                        refine bodyPost_ret (results_cell_row rfl _ _ gb473 30 #[.int .i64 t485, .int .i64 t486, .int .i64 t487, .int .i64 t488] (0, 0) _ rfl (by (with_reducible repeat (first | refine blk_drewN ?_ _ | refine blk_drew ?_ | refine blk_alloc ?_ _)); refine blk_put (cs := #[.int .i64 t485, .int .i64 t486, .int .i64 t487, .int .i64 x474003_5]) ?_ 3 _ rfl; (with_reducible repeat (first | refine blk_drewN ?_ _ | refine blk_drew ?_ | refine blk_alloc ?_ _)); refine blk_put (cs := #[.int .i64 t485, .int .i64 t486, .int .i64 x474002_5, .int .i64 x474003_5]) ?_ 2 _ rfl; (with_reducible repeat (first | refine blk_drewN ?_ _ | refine blk_drew ?_ | refine blk_alloc ?_ _)); refine blk_put (cs := #[.int .i64 t485, .int .i64 x474001_5, .int .i64 x474002_5, .int .i64 x474003_5]) ?_ 1 _ rfl; (with_reducible repeat (first | refine blk_drewN ?_ _ | refine blk_drew ?_ | refine blk_alloc ?_ _)); refine blk_put (cs := #[.int .i64 x474000_5, .int .i64 x474001_5, .int .i64 x474002_5, .int .i64 x474003_5]) ?_ 0 _ rfl; (with_reducible repeat (first | refine blk_drewN ?_ _ | refine blk_drew ?_ | refine blk_alloc ?_ _)); refine blk_far ?_ NB473_489.out _; (with_reducible repeat (first | refine blk_drewN ?_ _ | refine blk_drew ?_ | refine blk_alloc ?_ _)); refine blk_far ?_ NB473_489.out _; (with_reducible repeat (first | refine blk_drewN ?_ _ | refine blk_drew ?_ | refine blk_alloc ?_ _)); refine blk_far ?_ NB473_489.out _; (with_reducible repeat (first | refine blk_drewN ?_ _ | refine blk_drew ?_ | refine blk_alloc ?_ _)); refine blk_far ?_ NB473_489.out _; (with_reducible repeat (first | refine blk_drewN ?_ _ | refine blk_drew ?_ | refine blk_alloc ?_ _)); exact BK473.out) Try.underlying30 rfl (by kernel_rfl)) rfl ?_
                        exact ⟨xq, bs⟩
                ·
                 replace c63 := Bool.eq_false_iff.mpr c63
                 subst c63
                 have H1 : (some (6, x5_4, 5, 0)) = some (r1, r2, r3, r4) := by rw [if_neg (show ¬ (false = true) by decide)] at H; exact H
                 clear H
                 have H := H1
                 clear H1
                 simp only [Option.some.injEq, Prod.mk.injEq] at H
                 obtain ⟨rfl, rfl, rfl, rfl⟩ := H
                 have hnb134 := NB472_473.out
                 have hnc134 := NB473_472.out
                 have hnb135 := NB472_476.out
                 have hnc135 := NB476_472.out
                 have hcz136_0 := cz0 BK472.out
                 have hcz136_1 := cz1 BK472.out
                 have hcz136_2 := cz2 BK472.out
                 have hcz136_3 := cz3 BK472.out
                 have hfz136_0 := fz BK472 0
                 have hfz136_1 := fz BK472 1
                 have hfz136_2 := fz BK472 2
                 have hfz136_3 := fz BK472 3
                 have p481 : 0 ≤ (x5_4 : Int) := of_decide_eq_true az
                 have q481 : x5_4 < (l0_3.length : Int) := of_decide_eq_true az
                 obtain ⟨ad481, A481_2, c481_2, A481_3, c481_3, A481_4, c481_4, e481, hx481_0, hx481_1, hx481_2, hx481_3, hx481_4, hl481_2, hi481_2, hl481_3, hi481_3, hl481_4, hi481_4⟩ := at_T38 HR0_3.out x5_4 p481 q481
                 cases e481
                 replace hx481_0 := hX HB hx481_0
                 replace hx481_1 := hX HB hx481_1
                 replace hx481_2 := hX HB hx481_2
                 replace hx481_3 := hX HB hx481_3
                 replace hx481_4 := hX HB hx481_4
                 have HR481_2 := Am hi481_2
                 have HC481_2 := Am hl481_2
                 clear hi481_2 hl481_2
                 have HR481_3 := Am hi481_3
                 have HC481_3 := Am hl481_3
                 clear hi481_3 hl481_3
                 have HR481_4 := Am hi481_4
                 have HC481_4 := Am hl481_4
                 clear hi481_4 hl481_4
                 replace p481 := eq_true p481
                 replace q481 := eq_true q481
                 go_wp2_with (first | ((with_reducible refine gate_dst (N := 6) rfl ?_); (try (refine gate_guard (by rfl) ?_; dsimp only)); refine bxe (N := 6) (cs := #[.string (⟨#[]⟩ : ByteArray), .int .i64 0, .slice none 0 0, .slice none 0 0, .slice none 0 0]) (t := 38) ?_; intro gb482 hg w137 hbox hb; have n0_ := Am (blk_below (kB BK472) hb); have n1_ := Am (blk_below (kB BK473) hb); have n2_ := Am (blk_below (kB BK476) hb); have n3_ := Am (below_step (bs) hb); have n4_ := Am (hbox); have n5_ := Am ((gE hg : w.heap.size ≤ gb482)); have n6_ := Am ((gE hg : w.heap.size ≤ gb482)); have n7_ := Am (nL hg BK472); have n8_ := Am (nG hg BK472); have n9_ := Am (nL hg BK473); have n10_ := Am (nG hg BK473); have n11_ := Am (nL hg BK476); have n12_ := Am (nG hg BK476); clear BK472; clear BK473; clear BK476; clear HB; have BK472 := n0_; have BK473 := n1_; have BK476 := n2_; have HB := n3_; have BK482 := n4_; have GW482 := n5_; have GE482 := n6_; have NB472_482 := n7_; have NB482_472 := n8_; have NB473_482 := n9_; have NB482_473 := n10_; have NB476_482 := n11_; have NB482_476 := n12_; clear n0_ n1_ n2_ n3_ n4_ n5_ n6_ n7_ n8_ n9_ n10_ n11_ n12_; clear hb hbox hg; have hnb138 := NB482_472.out; have hnc138 := NB472_482.out; have hnb139 := NB482_473.out; have hnc139 := NB473_482.out; have hnb140 := NB482_476.out; have hnc140 := NB476_482.out; have hcz141_0 := cz0 BK482.out; have hcz141_1 := cz1 BK482.out; have hcz141_2 := cz2 BK482.out; have hcz141_3 := cz3 BK482.out; have hcz141_4 := cz4 BK482.out; have hfz141_0 := fz BK482 0; have hfz141_1 := fz BK482 1; have hfz141_2 := fz BK482 2; have hfz141_3 := fz BK482 3; have hfz141_4 := fz BK482 4) | (go_at_call 32; (with_reducible refine (surmiseref04_Name.calls k4 ((rd_T38 l0_3 x5_4).f0) false _ A62.out).mono ?_); rintro e w' ⟨rfl, ⟨nd, rfl⟩⟩; (try first | exact ⟨rfl, _, World.drewN_drewN _ _ _⟩ | exact ⟨rfl, _, Eq.trans (World.drewN_drewN _ _ _) (congrArg (World.drewN _) (Nat.add_assoc _ _ _))⟩); have hnb142 := NB473_476.out; have hnc142 := NB476_473.out; have hcz143_0 := cz0 BK473.out; have hcz143_1 := cz1 BK473.out; have hcz143_2 := cz2 BK473.out; have hcz143_3 := cz3 BK473.out; have hfz143_0 := fz BK473 0; have hfz143_1 := fz BK473 1; have hfz143_2 := fz BK473 2; have hfz143_3 := fz BK473 3))
                 repeat (go_quiet (first | ((with_reducible refine gate_dst (N := 6) rfl ?_); (try (refine gate_guard (by rfl) ?_; dsimp only)); refine bxe (N := 6) (cs := #[.string (⟨#[]⟩ : ByteArray), .int .i64 0, .slice none 0 0, .slice none 0 0, .slice none 0 0]) (t := 38) ?_; intro gb482 hg w137 hbox hb; have n0_ := Am (blk_below (kB BK472) hb); have n1_ := Am (blk_below (kB BK473) hb); have n2_ := Am (blk_below (kB BK476) hb); have n3_ := Am (below_step (bs) hb); have n4_ := Am (hbox); have n5_ := Am ((gE hg : w.heap.size ≤ gb482)); have n6_ := Am ((gE hg : w.heap.size ≤ gb482)); have n7_ := Am (nL hg BK472); have n8_ := Am (nG hg BK472); have n9_ := Am (nL hg BK473); have n10_ := Am (nG hg BK473); have n11_ := Am (nL hg BK476); have n12_ := Am (nG hg BK476); clear BK472; clear BK473; clear BK476; clear HB; have BK472 := n0_; have BK473 := n1_; have BK476 := n2_; have HB := n3_; have BK482 := n4_; have GW482 := n5_; have GE482 := n6_; have NB472_482 := n7_; have NB482_472 := n8_; have NB473_482 := n9_; have NB482_473 := n10_; have NB476_482 := n11_; have NB482_476 := n12_; clear n0_ n1_ n2_ n3_ n4_ n5_ n6_ n7_ n8_ n9_ n10_ n11_ n12_; clear hb hbox hg; have hnb138 := NB482_472.out; have hnc138 := NB472_482.out; have hnb139 := NB482_473.out; have hnc139 := NB473_482.out; have hnb140 := NB482_476.out; have hnc140 := NB476_482.out; have hcz141_0 := cz0 BK482.out; have hcz141_1 := cz1 BK482.out; have hcz141_2 := cz2 BK482.out; have hcz141_3 := cz3 BK482.out; have hcz141_4 := cz4 BK482.out; have hfz141_0 := fz BK482 0; have hfz141_1 := fz BK482 1; have hfz141_2 := fz BK482 2; have hfz141_3 := fz BK482 3; have hfz141_4 := fz BK482 4) | (go_at_call 32; (with_reducible refine (surmiseref04_Name.calls k4 ((rd_T38 l0_3 x5_4).f0) false _ A62.out).mono ?_); rintro e w' ⟨rfl, ⟨nd, rfl⟩⟩; (try first | exact ⟨rfl, _, World.drewN_drewN _ _ _⟩ | exact ⟨rfl, _, Eq.trans (World.drewN_drewN _ _ _) (congrArg (World.drewN _) (Nat.add_assoc _ _ _))⟩); have hnb142 := NB473_476.out; have hnc142 := NB476_473.out; have hcz143_0 := cz0 BK473.out; have hcz143_1 := cz1 BK473.out; have hcz143_2 := cz2 BK473.out; have hcz143_3 := cz3 BK473.out; have hfz143_0 := fz BK473 0; have hfz143_1 := fz BK473 1; have hfz143_2 := fz BK473 2; have hfz143_3 := fz BK473 3)); try go_wp2_with (first | ((with_reducible refine gate_dst (N := 6) rfl ?_); (try (refine gate_guard (by rfl) ?_; dsimp only)); refine bxe (N := 6) (cs := #[.string (⟨#[]⟩ : ByteArray), .int .i64 0, .slice none 0 0, .slice none 0 0, .slice none 0 0]) (t := 38) ?_; intro gb482 hg w137 hbox hb; have n0_ := Am (blk_below (kB BK472) hb); have n1_ := Am (blk_below (kB BK473) hb); have n2_ := Am (blk_below (kB BK476) hb); have n3_ := Am (below_step (bs) hb); have n4_ := Am (hbox); have n5_ := Am ((gE hg : w.heap.size ≤ gb482)); have n6_ := Am ((gE hg : w.heap.size ≤ gb482)); have n7_ := Am (nL hg BK472); have n8_ := Am (nG hg BK472); have n9_ := Am (nL hg BK473); have n10_ := Am (nG hg BK473); have n11_ := Am (nL hg BK476); have n12_ := Am (nG hg BK476); clear BK472; clear BK473; clear BK476; clear HB; have BK472 := n0_; have BK473 := n1_; have BK476 := n2_; have HB := n3_; have BK482 := n4_; have GW482 := n5_; have GE482 := n6_; have NB472_482 := n7_; have NB482_472 := n8_; have NB473_482 := n9_; have NB482_473 := n10_; have NB476_482 := n11_; have NB482_476 := n12_; clear n0_ n1_ n2_ n3_ n4_ n5_ n6_ n7_ n8_ n9_ n10_ n11_ n12_; clear hb hbox hg; have hnb138 := NB482_472.out; have hnc138 := NB472_482.out; have hnb139 := NB482_473.out; have hnc139 := NB473_482.out; have hnb140 := NB482_476.out; have hnc140 := NB476_482.out; have hcz141_0 := cz0 BK482.out; have hcz141_1 := cz1 BK482.out; have hcz141_2 := cz2 BK482.out; have hcz141_3 := cz3 BK482.out; have hcz141_4 := cz4 BK482.out; have hfz141_0 := fz BK482 0; have hfz141_1 := fz BK482 1; have hfz141_2 := fz BK482 2; have hfz141_3 := fz BK482 3; have hfz141_4 := fz BK482 4) | (go_at_call 32; (with_reducible refine (surmiseref04_Name.calls k4 ((rd_T38 l0_3 x5_4).f0) false _ A62.out).mono ?_); rintro e w' ⟨rfl, ⟨nd, rfl⟩⟩; (try first | exact ⟨rfl, _, World.drewN_drewN _ _ _⟩ | exact ⟨rfl, _, Eq.trans (World.drewN_drewN _ _ _) (congrArg (World.drewN _) (Nat.add_assoc _ _ _))⟩); have hnb142 := NB473_476.out; have hnc142 := NB476_473.out; have hcz143_0 := cz0 BK473.out; have hcz143_1 := cz1 BK473.out; have hcz143_2 := cz2 BK473.out; have hcz143_3 := cz3 BK473.out; have hfz143_0 := fz BK473 0; have hfz143_1 := fz BK473 1; have hfz143_2 := fz BK473 2; have hfz143_3 := fz BK473 3)))
                 refine bodyPost_ret (results_cell_row rfl _ _ gb473 30 #[.int .i64 6, .int .i64 x5_4, .int .i64 5, .int .i64 0] (0, 0) _ rfl (by (with_reducible repeat (first | refine blk_drewN ?_ _ | refine blk_drew ?_ | refine blk_alloc ?_ _)); refine blk_put (cs := #[.int .i64 6, .int .i64 x5_4, .int .i64 5, .int .i64 x474003_4]) ?_ 3 _ rfl; (with_reducible repeat (first | refine blk_drewN ?_ _ | refine blk_drew ?_ | refine blk_alloc ?_ _)); refine blk_put (cs := #[.int .i64 6, .int .i64 x5_4, .int .i64 x474002_4, .int .i64 x474003_4]) ?_ 2 _ rfl; (with_reducible repeat (first | refine blk_drewN ?_ _ | refine blk_drew ?_ | refine blk_alloc ?_ _)); refine blk_put (cs := #[.int .i64 6, .int .i64 x474001_4, .int .i64 x474002_4, .int .i64 x474003_4]) ?_ 1 _ rfl; (with_reducible repeat (first | refine blk_drewN ?_ _ | refine blk_drew ?_ | refine blk_alloc ?_ _)); refine blk_put (cs := #[.int .i64 x474000_4, .int .i64 x474001_4, .int .i64 x474002_4, .int .i64 x474003_4]) ?_ 0 _ rfl; (with_reducible repeat (first | refine blk_drewN ?_ _ | refine blk_drew ?_ | refine blk_alloc ?_ _)); refine blk_far ?_ NB473_482.out _; (with_reducible repeat (first | refine blk_drewN ?_ _ | refine blk_drew ?_ | refine blk_alloc ?_ _)); refine blk_far ?_ NB473_482.out _; (with_reducible repeat (first | refine blk_drewN ?_ _ | refine blk_drew ?_ | refine blk_alloc ?_ _)); refine blk_far ?_ NB473_482.out _; (with_reducible repeat (first | refine blk_drewN ?_ _ | refine blk_drew ?_ | refine blk_alloc ?_ _)); refine blk_far ?_ NB473_482.out _; (with_reducible repeat (first | refine blk_drewN ?_ _ | refine blk_drew ?_ | refine blk_alloc ?_ _)); refine blk_far ?_ NB473_482.out _; (with_reducible repeat (first | refine blk_drewN ?_ _ | refine blk_drew ?_ | refine blk_alloc ?_ _)); exact BK473.out) Try.underlying30 rfl (by kernel_rfl)) rfl ?_
                 exact ⟨xq, bs⟩
               ·
                rw [if_neg c61] at H
                exact absurd H (by simp)
              ·
               rw [if_neg c60] at H
               have c60b0 : decide (x5_4 < (l0_3.length : Int)) = false := decide_eq_false c60
               clear c60
               simp only [Option.some.injEq, Prod.mk.injEq] at H
               obtain ⟨rfl, rfl, rfl, rfl⟩ := H
               have hnb144 := NB472_473.out
               have hnc144 := NB473_472.out
               have hnb145 := NB472_476.out
               have hnc145 := NB476_472.out
               have hcz146_0 := cz0 BK472.out
               have hcz146_1 := cz1 BK472.out
               have hcz146_2 := cz2 BK472.out
               have hcz146_3 := cz3 BK472.out
               have hfz146_0 := fz BK472 0
               have hfz146_1 := fz BK472 1
               have hfz146_2 := fz BK472 2
               have hfz146_3 := fz BK472 3
               have hnb147 := NB473_476.out
               have hnc147 := NB476_473.out
               have hcz148_0 := cz0 BK473.out
               have hcz148_1 := cz1 BK473.out
               have hcz148_2 := cz2 BK473.out
               have hcz148_3 := cz3 BK473.out
               have hfz148_0 := fz BK473 0
               have hfz148_1 := fz BK473 1
               have hfz148_2 := fz BK473 2
               have hfz148_3 := fz BK473 3
               go_wp2
               repeat (go_quiet (fail); try go_wp2)
               refine bodyPost_ret (results_cell_row rfl _ _ gb473 30 #[.int .i64 0, .int .i64 0, .int .i64 0, .int .i64 0] (0, 0) _ rfl (by (with_reducible repeat (first | refine blk_drewN ?_ _ | refine blk_drew ?_ | refine blk_alloc ?_ _)); refine blk_put (cs := #[.int .i64 0, .int .i64 0, .int .i64 0, .int .i64 x474003_4]) ?_ 3 _ rfl; (with_reducible repeat (first | refine blk_drewN ?_ _ | refine blk_drew ?_ | refine blk_alloc ?_ _)); refine blk_put (cs := #[.int .i64 0, .int .i64 0, .int .i64 x474002_4, .int .i64 x474003_4]) ?_ 2 _ rfl; (with_reducible repeat (first | refine blk_drewN ?_ _ | refine blk_drew ?_ | refine blk_alloc ?_ _)); refine blk_put (cs := #[.int .i64 0, .int .i64 x474001_4, .int .i64 x474002_4, .int .i64 x474003_4]) ?_ 1 _ rfl; (with_reducible repeat (first | refine blk_drewN ?_ _ | refine blk_drew ?_ | refine blk_alloc ?_ _)); refine blk_put (cs := #[.int .i64 x474000_4, .int .i64 x474001_4, .int .i64 x474002_4, .int .i64 x474003_4]) ?_ 0 _ rfl; (with_reducible repeat (first | refine blk_drewN ?_ _ | refine blk_drew ?_ | refine blk_alloc ?_ _)); exact BK473.out) Try.underlying30 rfl (by kernel_rfl)) rfl ?_
               exact ⟨xq, bs⟩
       ·
        rw [if_neg c30] at H
        have c30b0 : ((l0_2.length : Int) == (l0_1.length : Int)) = false := beq_eq_false_iff_ne.mpr c30
        have c30b1 : ((l0_2.length : Int) != (l0_1.length : Int)) = true := bne_iff_ne.mpr c30
        have c30b2 : (l0_2.length == l0_1.length) = false := by first | simpa using c30 | (simp at c30 ⊢; omega)
        simp only [Option.some.injEq, Prod.mk.injEq] at H
        obtain ⟨rfl, rfl, rfl, rfl⟩ := H
        have hnb149 := NB476_472.out
        have hnc149 := NB472_476.out
        have hnb150 := NB476_473.out
        have hnc150 := NB473_476.out
        have hcz151_0 := cz0 BK476.out
        have hcz151_1 := cz1 BK476.out
        have hfz151_0 := fz BK476 0
        have hfz151_1 := fz BK476 1
        have hnb152 := NB472_473.out
        have hnc152 := NB473_472.out
        have hcz153_0 := cz0 BK472.out
        have hcz153_1 := cz1 BK472.out
        have hcz153_2 := cz2 BK472.out
        have hcz153_3 := cz3 BK472.out
        have hfz153_0 := fz BK472 0
        have hfz153_1 := fz BK472 1
        have hfz153_2 := fz BK472 2
        have hfz153_3 := fz BK472 3
        go_wp2_with (first | (go_at_call 30; (with_reducible refine (surmiseref05_Names.calls kj21 _ _ l0_1 6 t477 t478 _ ?side1 ?side2 A28.out).mono ?_); (case side1 => exact kC HR0_1); (case side2 => exact HC0_1.out); rintro e w154 ⟨rfl, hb⟩; have n0_ := Am (blk_below (kB BK472) hb); have n1_ := Am (blk_below (kB BK473) hb); have n2_ := Am (blk_below (kB BK476) hb); have n3_ := Am (below_step (bs) hb); clear BK472; clear BK473; clear BK476; clear HB; have BK472 := n0_; have BK473 := n1_; have BK476 := n2_; have HB := n3_; clear n0_ n1_ n2_ n3_; (try clear hb); (try clear hb2); (try clear hk); (try clear hi); have hcz155_0 := cz0 BK476.out; have hcz155_1 := cz1 BK476.out; have hfz155_0 := fz BK476 0; have hfz155_1 := fz BK476 1; have hcz156_0 := cz0 BK472.out; have hcz156_1 := cz1 BK472.out; have hcz156_2 := cz2 BK472.out; have hcz156_3 := cz3 BK472.out; have hfz156_0 := fz BK472 0; have hfz156_1 := fz BK472 1; have hfz156_2 := fz BK472 2; have hfz156_3 := fz BK472 3; have hcz157_0 := cz0 BK473.out; have hcz157_1 := cz1 BK473.out; have hcz157_2 := cz2 BK473.out; have hcz157_3 := cz3 BK473.out; have hfz157_0 := fz BK473 0; have hfz157_1 := fz BK473 1; have hfz157_2 := fz BK473 2; have hfz157_3 := fz BK473 3))
        repeat (go_quiet (first | (go_at_call 30; (with_reducible refine (surmiseref05_Names.calls kj21 _ _ l0_1 6 t477 t478 _ ?side1 ?side2 A28.out).mono ?_); (case side1 => exact kC HR0_1); (case side2 => exact HC0_1.out); rintro e w154 ⟨rfl, hb⟩; have n0_ := Am (blk_below (kB BK472) hb); have n1_ := Am (blk_below (kB BK473) hb); have n2_ := Am (blk_below (kB BK476) hb); have n3_ := Am (below_step (bs) hb); clear BK472; clear BK473; clear BK476; clear HB; have BK472 := n0_; have BK473 := n1_; have BK476 := n2_; have HB := n3_; clear n0_ n1_ n2_ n3_; (try clear hb); (try clear hb2); (try clear hk); (try clear hi); have hcz155_0 := cz0 BK476.out; have hcz155_1 := cz1 BK476.out; have hfz155_0 := fz BK476 0; have hfz155_1 := fz BK476 1; have hcz156_0 := cz0 BK472.out; have hcz156_1 := cz1 BK472.out; have hcz156_2 := cz2 BK472.out; have hcz156_3 := cz3 BK472.out; have hfz156_0 := fz BK472 0; have hfz156_1 := fz BK472 1; have hfz156_2 := fz BK472 2; have hfz156_3 := fz BK472 3; have hcz157_0 := cz0 BK473.out; have hcz157_1 := cz1 BK473.out; have hcz157_2 := cz2 BK473.out; have hcz157_3 := cz3 BK473.out; have hfz157_0 := fz BK473 0; have hfz157_1 := fz BK473 1; have hfz157_2 := fz BK473 2; have hfz157_3 := fz BK473 3)); try go_wp2_with (first | (go_at_call 30; (with_reducible refine (surmiseref05_Names.calls kj21 _ _ l0_1 6 t477 t478 _ ?side1 ?side2 A28.out).mono ?_); (case side1 => exact kC HR0_1); (case side2 => exact HC0_1.out); rintro e w154 ⟨rfl, hb⟩; have n0_ := Am (blk_below (kB BK472) hb); have n1_ := Am (blk_below (kB BK473) hb); have n2_ := Am (blk_below (kB BK476) hb); have n3_ := Am (below_step (bs) hb); clear BK472; clear BK473; clear BK476; clear HB; have BK472 := n0_; have BK473 := n1_; have BK476 := n2_; have HB := n3_; clear n0_ n1_ n2_ n3_; (try clear hb); (try clear hb2); (try clear hk); (try clear hi); have hcz155_0 := cz0 BK476.out; have hcz155_1 := cz1 BK476.out; have hfz155_0 := fz BK476 0; have hfz155_1 := fz BK476 1; have hcz156_0 := cz0 BK472.out; have hcz156_1 := cz1 BK472.out; have hcz156_2 := cz2 BK472.out; have hcz156_3 := cz3 BK472.out; have hfz156_0 := fz BK472 0; have hfz156_1 := fz BK472 1; have hfz156_2 := fz BK472 2; have hfz156_3 := fz BK472 3; have hcz157_0 := cz0 BK473.out; have hcz157_1 := cz1 BK473.out; have hcz157_2 := cz2 BK473.out; have hcz157_3 := cz3 BK473.out; have hfz157_0 := fz BK473 0; have hfz157_1 := fz BK473 1; have hfz157_2 := fz BK473 2; have hfz157_3 := fz BK473 3)))
        refine bodyPost_ret (results_cell_row rfl _ _ gb473 30 #[.int .i64 2, .int .i64 (-1), .int .i64 3, .int .i64 0] (0, 0) _ rfl (by (with_reducible repeat (first | refine blk_drewN ?_ _ | refine blk_drew ?_ | refine blk_alloc ?_ _)); refine blk_put (cs := #[.int .i64 2, .int .i64 (-1), .int .i64 3, .int .i64 0]) ?_ 3 _ rfl; (with_reducible repeat (first | refine blk_drewN ?_ _ | refine blk_drew ?_ | refine blk_alloc ?_ _)); refine blk_put (cs := #[.int .i64 2, .int .i64 (-1), .int .i64 0, .int .i64 0]) ?_ 2 _ rfl; (with_reducible repeat (first | refine blk_drewN ?_ _ | refine blk_drew ?_ | refine blk_alloc ?_ _)); refine blk_put (cs := #[.int .i64 2, .int .i64 0, .int .i64 0, .int .i64 0]) ?_ 1 _ rfl; (with_reducible repeat (first | refine blk_drewN ?_ _ | refine blk_drew ?_ | refine blk_alloc ?_ _)); refine blk_put (cs := #[.int .i64 0, .int .i64 0, .int .i64 0, .int .i64 0]) ?_ 0 _ rfl; (with_reducible repeat (first | refine blk_drewN ?_ _ | refine blk_drew ?_ | refine blk_alloc ?_ _)); refine blk_far ?_ NB473_476.out _; (with_reducible repeat (first | refine blk_drewN ?_ _ | refine blk_drew ?_ | refine blk_alloc ?_ _)); refine blk_far ?_ NB473_476.out _; (with_reducible repeat (first | refine blk_drewN ?_ _ | refine blk_drew ?_ | refine blk_alloc ?_ _)); exact BK473.out) Try.underlying30 rfl (by kernel_rfl)) rfl ?_
        exact ⟨xq, bs⟩
      ·
       rw [if_neg c29] at H
       have c29b0 : (t478 == 0) = false := beq_eq_false_iff_ne.mpr c29
       have c29b1 : (t478 != 0) = true := bne_iff_ne.mpr c29
       simp only [Option.some.injEq, Prod.mk.injEq] at H
       obtain ⟨rfl, rfl, rfl, rfl⟩ := H
       have hnb158 := NB476_472.out
       have hnc158 := NB472_476.out
       have hnb159 := NB476_473.out
       have hnc159 := NB473_476.out
       have hcz160_0 := cz0 BK476.out
       have hcz160_1 := cz1 BK476.out
       have hfz160_0 := fz BK476 0
       have hfz160_1 := fz BK476 1
       have hnb161 := NB472_473.out
       have hnc161 := NB473_472.out
       have hcz162_0 := cz0 BK472.out
       have hcz162_1 := cz1 BK472.out
       have hcz162_2 := cz2 BK472.out
       have hcz162_3 := cz3 BK472.out
       have hfz162_0 := fz BK472 0
       have hfz162_1 := fz BK472 1
       have hfz162_2 := fz BK472 2
       have hfz162_3 := fz BK472 3
       go_wp2_with (first | (go_at_call 30; (with_reducible refine (surmiseref05_Names.calls kj21 _ _ l0_1 6 t477 t478 _ ?side1 ?side2 A28.out).mono ?_); (case side1 => exact kC HR0_1); (case side2 => exact HC0_1.out); rintro e w163 ⟨rfl, hb⟩; have n0_ := Am (blk_below (kB BK472) hb); have n1_ := Am (blk_below (kB BK473) hb); have n2_ := Am (blk_below (kB BK476) hb); have n3_ := Am (below_step (bs) hb); clear BK472; clear BK473; clear BK476; clear HB; have BK472 := n0_; have BK473 := n1_; have BK476 := n2_; have HB := n3_; clear n0_ n1_ n2_ n3_; (try clear hb); (try clear hb2); (try clear hk); (try clear hi); have hcz164_0 := cz0 BK476.out; have hcz164_1 := cz1 BK476.out; have hfz164_0 := fz BK476 0; have hfz164_1 := fz BK476 1; have hcz165_0 := cz0 BK473.out; have hcz165_1 := cz1 BK473.out; have hcz165_2 := cz2 BK473.out; have hcz165_3 := cz3 BK473.out; have hfz165_0 := fz BK473 0; have hfz165_1 := fz BK473 1; have hfz165_2 := fz BK473 2; have hfz165_3 := fz BK473 3))
       repeat (go_quiet (first | (go_at_call 30; (with_reducible refine (surmiseref05_Names.calls kj21 _ _ l0_1 6 t477 t478 _ ?side1 ?side2 A28.out).mono ?_); (case side1 => exact kC HR0_1); (case side2 => exact HC0_1.out); rintro e w163 ⟨rfl, hb⟩; have n0_ := Am (blk_below (kB BK472) hb); have n1_ := Am (blk_below (kB BK473) hb); have n2_ := Am (blk_below (kB BK476) hb); have n3_ := Am (below_step (bs) hb); clear BK472; clear BK473; clear BK476; clear HB; have BK472 := n0_; have BK473 := n1_; have BK476 := n2_; have HB := n3_; clear n0_ n1_ n2_ n3_; (try clear hb); (try clear hb2); (try clear hk); (try clear hi); have hcz164_0 := cz0 BK476.out; have hcz164_1 := cz1 BK476.out; have hfz164_0 := fz BK476 0; have hfz164_1 := fz BK476 1; have hcz165_0 := cz0 BK473.out; have hcz165_1 := cz1 BK473.out; have hcz165_2 := cz2 BK473.out; have hcz165_3 := cz3 BK473.out; have hfz165_0 := fz BK473 0; have hfz165_1 := fz BK473 1; have hfz165_2 := fz BK473 2; have hfz165_3 := fz BK473 3)); try go_wp2_with (first | (go_at_call 30; (with_reducible refine (surmiseref05_Names.calls kj21 _ _ l0_1 6 t477 t478 _ ?side1 ?side2 A28.out).mono ?_); (case side1 => exact kC HR0_1); (case side2 => exact HC0_1.out); rintro e w163 ⟨rfl, hb⟩; have n0_ := Am (blk_below (kB BK472) hb); have n1_ := Am (blk_below (kB BK473) hb); have n2_ := Am (blk_below (kB BK476) hb); have n3_ := Am (below_step (bs) hb); clear BK472; clear BK473; clear BK476; clear HB; have BK472 := n0_; have BK473 := n1_; have BK476 := n2_; have HB := n3_; clear n0_ n1_ n2_ n3_; (try clear hb); (try clear hb2); (try clear hk); (try clear hi); have hcz164_0 := cz0 BK476.out; have hcz164_1 := cz1 BK476.out; have hfz164_0 := fz BK476 0; have hfz164_1 := fz BK476 1; have hcz165_0 := cz0 BK473.out; have hcz165_1 := cz1 BK473.out; have hcz165_2 := cz2 BK473.out; have hcz165_3 := cz3 BK473.out; have hfz165_0 := fz BK473 0; have hfz165_1 := fz BK473 1; have hfz165_2 := fz BK473 2; have hfz165_3 := fz BK473 3)))
       refine bodyPost_ret (results_cell_row rfl _ _ gb473 30 #[.int .i64 t478, .int .i64 (-1), .int .i64 2, .int .i64 t477] (0, 0) _ rfl (by (with_reducible repeat (first | refine blk_drewN ?_ _ | refine blk_drew ?_ | refine blk_alloc ?_ _)); refine blk_put (cs := #[.int .i64 t478, .int .i64 (-1), .int .i64 2, .int .i64 0]) ?_ 3 _ rfl; (with_reducible repeat (first | refine blk_drewN ?_ _ | refine blk_drew ?_ | refine blk_alloc ?_ _)); refine blk_put (cs := #[.int .i64 t478, .int .i64 (-1), .int .i64 0, .int .i64 0]) ?_ 2 _ rfl; (with_reducible repeat (first | refine blk_drewN ?_ _ | refine blk_drew ?_ | refine blk_alloc ?_ _)); refine blk_put (cs := #[.int .i64 t478, .int .i64 0, .int .i64 0, .int .i64 0]) ?_ 1 _ rfl; (with_reducible repeat (first | refine blk_drewN ?_ _ | refine blk_drew ?_ | refine blk_alloc ?_ _)); refine blk_put (cs := #[.int .i64 0, .int .i64 0, .int .i64 0, .int .i64 0]) ?_ 0 _ rfl; (with_reducible repeat (first | refine blk_drewN ?_ _ | refine blk_drew ?_ | refine blk_alloc ?_ _)); refine blk_far ?_ NB473_476.out _; (with_reducible repeat (first | refine blk_drewN ?_ _ | refine blk_drew ?_ | refine blk_alloc ?_ _)); refine blk_far ?_ NB473_476.out _; (with_reducible repeat (first | refine blk_drewN ?_ _ | refine blk_drew ?_ | refine blk_alloc ?_ _)); exact BK473.out) Try.underlying30 rfl (by kernel_rfl)) rfl ?_
       exact ⟨xq, bs⟩
     ·
      rw [if_neg c27] at H
      have c27b0 : (x477001_21 == 0) = false := beq_eq_false_iff_ne.mpr c27
      have c27b1 : (x477001_21 != 0) = true := bne_iff_ne.mpr c27
      simp only [Option.some.injEq, Prod.mk.injEq] at H
      obtain ⟨rfl, rfl, rfl, rfl⟩ := H
      have hnb166 := NB476_472.out
      have hnc166 := NB472_476.out
      have hnb167 := NB476_473.out
      have hnc167 := NB473_476.out
      have hcz168_0 := cz0 BK476.out
      have hcz168_1 := cz1 BK476.out
      have hfz168_0 := fz BK476 0
      have hfz168_1 := fz BK476 1
      have hnb169 := NB473_472.out
      have hnc169 := NB472_473.out
      have hcz170_0 := cz0 BK473.out
      have hcz170_1 := cz1 BK473.out
      have hcz170_2 := cz2 BK473.out
      have hcz170_3 := cz3 BK473.out
      have hfz170_0 := fz BK473 0
      have hfz170_1 := fz BK473 1
      have hfz170_2 := fz BK473 2
      have hfz170_3 := fz BK473 3
      go_wp2
      repeat (go_quiet (fail); try go_wp2)
      refine bodyPost_ret (results_cell_row rfl _ _ gb473 30 #[.int .i64 x477001_21, .int .i64 (-1), .int .i64 1, .int .i64 t474] (0, 0) _ rfl (by (with_reducible repeat (first | refine blk_drewN ?_ _ | refine blk_drew ?_ | refine blk_alloc ?_ _)); refine blk_put (cs := #[.int .i64 x477001_21, .int .i64 (-1), .int .i64 1, .int .i64 0]) ?_ 3 _ rfl; (with_reducible repeat (first | refine blk_drewN ?_ _ | refine blk_drew ?_ | refine blk_alloc ?_ _)); refine blk_put (cs := #[.int .i64 x477001_21, .int .i64 (-1), .int .i64 0, .int .i64 0]) ?_ 2 _ rfl; (with_reducible repeat (first | refine blk_drewN ?_ _ | refine blk_drew ?_ | refine blk_alloc ?_ _)); refine blk_put (cs := #[.int .i64 x477001_21, .int .i64 0, .int .i64 0, .int .i64 0]) ?_ 1 _ rfl; (with_reducible repeat (first | refine blk_drewN ?_ _ | refine blk_drew ?_ | refine blk_alloc ?_ _)); refine blk_put (cs := #[.int .i64 0, .int .i64 0, .int .i64 0, .int .i64 0]) ?_ 0 _ rfl; (with_reducible repeat (first | refine blk_drewN ?_ _ | refine blk_drew ?_ | refine blk_alloc ?_ _)); exact BK473.out) Try.underlying30 rfl (by kernel_rfl)) rfl ?_
      exact ⟨xq, bs⟩

end Go.Proofs.Ytdfhbmallnegfaa.PA
