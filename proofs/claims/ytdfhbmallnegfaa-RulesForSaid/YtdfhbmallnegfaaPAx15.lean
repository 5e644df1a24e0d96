-- Written by a program (wip/tools/gprint.py: a patched copy of the kit's print) and by hand, for this claim
import Derived.Test.YtdfhbmallnegfaaPAx0
import Derived.Test.YtdfhbmallnegfaaPAx8
namespace Go.Proofs.Ytdfhbmallnegfaa.PA
open Go.RowKit Go.Proofs.YtdfhbmallnegfaaW.PrintWords Go.Proofs.YtdfhbmallnegfaaW.PrintLast Go.Proofs.YtdfhbmallnegfaaW.PrintMore
attribute [local go_sem] max2_int min2_int max_two min_two max_three min_three max_four min_four   -- for this text's walks alone
set_option linter.unusedVariables false
set_option linter.unusedSimpArgs false

attribute [local go_sem high] eqA30
/-! ### surmiselaw05_light: function 12 -/
mutual
def surmiselaw05_light.j0 : Nat → Bool → List ByteArray → List ByteArray → List Int → List (S38) → Option (Bool)
 | 0, _, _, _, _, _ => none
 | k + 1, x19, x501000, x501001, x501002, x501003 => if x19 = true then (some false) else (surmiselaw05_light.l0 k 0 x501000 x501001 x501002 x501003)
def surmiselaw05_light.l0 : Nat → Int → List ByteArray → List ByteArray → List Int → List (S38) → Option (Bool)
 | 0, _, _, _, _, _ => none
 | k + 1, x3, x501000, x501001, x501002, x501003 => if x3 < (x501003.length : Int) then (if 0 ≤ x3 then (if (((rd_T38 x501003 x3).f2).length : Int) > 40 then (some false) else (if (((rd_T38 x501003 x3).f4).length : Int) > 40 then (some false) else (if (((rd_T38 x501003 x3).f3).length : Int) > 40 then (some false) else (surmiselaw05_light.l0 k (wrap64 (x3 + 1)) x501000 x501001 x501002 x501003)))) else (none)) else (some true)
end
def surmiselaw05_light.f (k : Nat) (l0_0 : List ByteArray) (l0_1 : List ByteArray) (l0_2 : List Int) (l0_3 : List (S38)) : Option (Bool) := if (l0_0.length : Int) > 40 then (surmiselaw05_light.j0 k true l0_0 l0_1 l0_2 l0_3) else (if (l0_1.length : Int) > 40 then (surmiselaw05_light.j0 k true l0_0 l0_1 l0_2 l0_3) else (surmiselaw05_light.j0 k (decide ((l0_3.length : Int) > 40)) l0_0 l0_1 l0_2 l0_3))
theorem surmiselaw05_light.mono_l : ∀ k, (∀ y0 y1 y2 y3 y4, LeO (surmiselaw05_light.j0 k y0 y1 y2 y3 y4) (surmiselaw05_light.j0 (k + 1) y0 y1 y2 y3 y4)) ∧ (∀ y0 y1 y2 y3 y4, LeO (surmiselaw05_light.l0 k y0 y1 y2 y3 y4) (surmiselaw05_light.l0 (k + 1) y0 y1 y2 y3 y4))
 | 0 => ⟨fun _ _ _ _ _ r h => by simp [surmiselaw05_light.j0] at h, fun _ _ _ _ _ r h => by simp [surmiselaw05_light.l0] at h⟩
 | k + 1 => by
  obtain ⟨ih0, ih1⟩ := surmiselaw05_light.mono_l k
  refine ⟨?_, ?_⟩
  ·
   intro y0 y1 y2 y3 y4
   unfold surmiselaw05_light.j0
   repeat' first
   | (with_reducible exact ih0 _ _ _ _ _)
   | (with_reducible exact ih1 _ _ _ _ _)
   | (with_reducible exact LeO.refl _)
   | (with_reducible exact LeO.none _)
   | (with_reducible refine LeO.ite ?_ ?_)
   | (with_reducible refine LeO.bind ?_ (fun _ => ?_))
   | exact ih0 _ _ _ _ _
   | exact ih1 _ _ _ _ _
   | exact LeO.none _
   | refine LeO.ite ?_ ?_
   | refine LeO.bind ?_ (fun _ => ?_)
  ·
   intro y0 y1 y2 y3 y4
   unfold surmiselaw05_light.l0
   repeat' first
   | (with_reducible exact ih0 _ _ _ _ _)
   | (with_reducible exact ih1 _ _ _ _ _)
   | (with_reducible exact LeO.refl _)
   | (with_reducible exact LeO.none _)
   | (with_reducible refine LeO.ite ?_ ?_)
   | (with_reducible refine LeO.bind ?_ (fun _ => ?_))
   | exact ih0 _ _ _ _ _
   | exact ih1 _ _ _ _ _
   | exact LeO.none _
   | refine LeO.ite ?_ ?_
   | refine LeO.bind ?_ (fun _ => ?_)
theorem surmiselaw05_light.mono : ∀ a0 a1 a2 a3 k, LeO (surmiselaw05_light.f k a0 a1 a2 a3) (surmiselaw05_light.f (k + 1) a0 a1 a2 a3) := by
 intro a0 a1 a2 a3 k
 obtain ⟨ih0, ih1⟩ := surmiselaw05_light.mono_l k
 unfold surmiselaw05_light.f
 repeat' first
   | (with_reducible exact ih0 _ _ _ _ _)
   | (with_reducible exact ih1 _ _ _ _ _)
   | (with_reducible exact LeO.refl _)
   | (with_reducible exact LeO.none _)
   | (with_reducible refine LeO.ite ?_ ?_)
   | (with_reducible refine LeO.bind ?_ (fun _ => ?_))
   | exact ih0 _ _ _ _ _
   | exact ih1 _ _ _ _ _
   | exact LeO.none _
   | refine LeO.ite ?_ ?_
   | refine LeO.bind ?_ (fun _ => ?_)
set_option maxHeartbeats 8000000 in
set_option maxRecDepth 100000 in
theorem surmiselaw05_light.calls (k : Nat) (A0_0 : Option Addr) (c0_0 : Nat) (l0_0 : List ByteArray) (A0_1 : Option Addr) (c0_1 : Nat) (l0_1 : List ByteArray) (A0_2 : Option Addr) (c0_2 : Nat) (l0_2 : List Int) (A0_3 : Option Addr) (c0_3 : Nat) (l0_3 : List (S38)) (r : Bool) (w : World) (hr0_0 : Kd.C Kd.string w A0_0 l0_0.length l0_0) (hc0_0 : l0_0.length ≤ c0_0) (hr0_1 : Kd.C Kd.string w A0_1 l0_1.length l0_1) (hc0_1 : l0_1.length ≤ c0_1) (hr0_2 : Kd.C (Kd.int .i64) w A0_2 l0_2.length l0_2) (hc0_2 : l0_2.length ≤ c0_2) (hr0_3 : Kd.C k38 w A0_3 l0_3.length l0_3) (hc0_3 : l0_3.length ≤ c0_3) (h : surmiselaw05_light.f k l0_0 l0_1 l0_2 l0_3 = some r) :
  Calls Try.prog 12 #[.agg #[.slice A0_0 l0_0.length c0_0, .slice A0_1 l0_1.length c0_1, .slice A0_2 l0_2.length c0_2, .slice A0_3 l0_3.length c0_3]] w fun e w' => e = .returned (.bool r) ∧ Below w.heap.size w w' := by
 have hu26 := Try.underlying26
 have HR0_0 := Am hr0_0
 have HC0_0 := Am hc0_0
 clear hr0_0 hc0_0
 have HR0_1 := Am hr0_1
 have HC0_1 := Am hc0_1
 clear hr0_1 hc0_1
 have HR0_2 := Am hr0_2
 have HC0_2 := Am hc0_2
 clear hr0_2 hc0_2
 have HR0_3 := Am hr0_3
 have HC0_3 := Am hc0_3
 clear hr0_3 hc0_3
 have HB := Am (Below.refl w.heap.size w)
 have H : (if (l0_0.length : Int) > 40 then (surmiselaw05_light.j0 k true l0_0 l0_1 l0_2 l0_3) else (if (l0_1.length : Int) > 40 then (surmiselaw05_light.j0 k true l0_0 l0_1 l0_2 l0_3) else (surmiselaw05_light.j0 k (decide ((l0_3.length : Int) > 40)) l0_0 l0_1 l0_2 l0_3))) = some r := h
 clear h
 have HC2 := Am H
 clear H
 go_enter Try.func12, Try.ntmps12
 go_upto_region 1 with (first | ((with_reducible refine gate_dst (N := 1) rfl ?_); (try (refine gate_guard (by rfl) ?_; dsimp only)); refine bxe (N := 1) (cs := #[.slice A0_0 l0_0.length c0_0, .slice A0_1 l0_1.length c0_1, .slice A0_2 l0_2.length c0_2, .slice A0_3 l0_3.length c0_3]) (t := 26) ?_; intro gb500 hg w3 hbox hb; have n0_ := Am (below_step (bl) hb); have n1_ := Am (hbox); have n2_ := Am ((gE hg : w.heap.size ≤ gb500)); have n3_ := Am ((gE hg : w.heap.size ≤ gb500)); clear HB; have HB := n0_; have BK500 := n1_; have GW500 := n2_; have GE500 := n3_; clear n0_ n1_ n2_ n3_; clear hb hbox hg))
 (try simp only [Act.put, List.setIfInBounds_toArray, List.set_cons_zero, List.set_cons_succ])
 go_cut [19] (fun v19 wc => ∃ (kq : Nat) (x19_1 : Bool), v19 = .bool x19_1 ∧ Aside0 (surmiselaw05_light.j0 kq x19_1 l0_0 l0_1 l0_2 l0_3 = some r) ∧ Aside0 (kq ≤ k) ∧ Aside0 (wc.heap[gb500]? = some (.cells #[(.slice A0_0 l0_0.length c0_0), (.slice A0_1 l0_1.length c0_1), (.slice A0_2 l0_2.length c0_2), (.slice A0_3 l0_3.length c0_3)] 26 (0, 0))) ∧ Aside0 (Below w.heap.size w wc))
 case first =>
  have H := HC2.out
  clear HC2
  by_cases c4 : (l0_0.length : Int) > 40
  ·
   rw [if_pos c4] at H
   have c4b0 : decide (40 < (l0_0.length : Int)) = true := decide_eq_true c4
   have c4b1 : decide (40 < l0_0.length) = true := decide_eq_true (by omega)
   clear c4
   (first | rw [c4b0] | (simp only [i64_w, i32_w]; rw [c4b0]) | skip)
   have H' := Am H
   clear H
   have hcz5_0 := cz0 BK500.out
   have hcz5_1 := cz1 BK500.out
   have hcz5_2 := cz2 BK500.out
   have hcz5_3 := cz3 BK500.out
   have hfz5_0 := fz BK500 0
   have hfz5_1 := fz BK500 1
   have hfz5_2 := fz BK500 2
   have hfz5_3 := fz BK500 3
   go_wp2
   go_meet
   case rel => exact ⟨_, (true), rq, H', ⟨by first | omega | exact Nat.le_refl _⟩, ⟨kB BK500⟩, ⟨bs⟩⟩
  ·
   rw [if_neg c4] at H
   have c4b0 : decide (40 < (l0_0.length : Int)) = false := decide_eq_false c4
   have c4b1 : decide (40 < l0_0.length) = false := decide_eq_false (by omega)
   clear c4
   (first | rw [c4b0] | (simp only [i64_w, i32_w]; rw [c4b0]) | skip)
   by_cases c6 : (l0_1.length : Int) > 40
   ·
    rw [if_pos c6] at H
    have c6b0 : decide (40 < (l0_1.length : Int)) = true := decide_eq_true c6
    have c6b1 : decide (40 < l0_1.length) = true := decide_eq_true (by omega)
    clear c6
    have H' := Am H
    clear H
    have hcz7_0 := cz0 BK500.out
    have hcz7_1 := cz1 BK500.out
    have hcz7_2 := cz2 BK500.out
    have hcz7_3 := cz3 BK500.out
    have hfz7_0 := fz BK500 0
    have hfz7_1 := fz BK500 1
    have hfz7_2 := fz BK500 2
    have hfz7_3 := fz BK500 3
    go_wp2
    go_meet
    case rel => exact ⟨_, (true), rq, H', ⟨by first | omega | exact Nat.le_refl _⟩, ⟨kB BK500⟩, ⟨bs⟩⟩
   ·
    rw [if_neg c6] at H
    have c6b0 : decide (40 < (l0_1.length : Int)) = false := decide_eq_false c6
    have c6b1 : decide (40 < l0_1.length) = false := decide_eq_false (by omega)
    clear c6
    have H' := Am H
    clear H
    have hcz8_0 := cz0 BK500.out
    have hcz8_1 := cz1 BK500.out
    have hcz8_2 := cz2 BK500.out
    have hcz8_3 := cz3 BK500.out
    have hfz8_0 := fz BK500 0
    have hfz8_1 := fz BK500 1
    have hfz8_2 := fz BK500 2
    have hfz8_3 := fz BK500 3
    go_wp2
    go_meet
    case rel => exact ⟨_, (decide ((l0_3.length : Int) > 40)), rq, H', ⟨by first | omega | exact Nat.le_refl _⟩, ⟨kB BK500⟩, ⟨bs⟩⟩
 case rest =>
  clear HC2
  try clear c1
  try clear p2
  try clear c4
  try clear c4b0
  try clear c4b1
  try clear c6
  try clear c6b0
  try clear c6b1
  try clear hcz5_0
  try clear hcz5_1
  try clear hcz5_2
  try clear hcz5_3
  try clear hcz7_0
  try clear hcz7_1
  try clear hcz7_2
  try clear hcz7_3
  try clear hcz8_0
  try clear hcz8_1
  try clear hcz8_2
  try clear hcz8_3
  try clear hfz5_0
  try clear hfz5_1
  try clear hfz5_2
  try clear hfz5_3
  try clear hfz7_0
  try clear hfz7_1
  try clear hfz7_2
  try clear hfz7_3
  try clear hfz8_0
  try clear hfz8_1
  try clear hfz8_2
  try clear hfz8_3
  obtain ⟨kq, x19_1, rfl, HA, HJ1, BK500, HB⟩ := hcut
  cases kq with
  | zero => exact absurd HA.out (by simp [surmiselaw05_light.j0])
  | succ kj1 =>
   have H := HA.out
   clear HA
   simp only [surmiselaw05_light.j0] at H
   by_cases c9 : x19_1 = true
   ·
    subst c9
    have H1 : (some false) = some r := by rw [if_pos rfl] at H; exact H
    clear H
    have H := H1
    clear H1
    obtain rfl := Option.some.inj H
    go_wp2
    go_ret
    exact ⟨xq, bs⟩
   ·
    replace c9 := Bool.eq_false_iff.mpr c9
    subst c9
    have H1 : (surmiselaw05_light.l0 kj1 0 l0_0 l0_1 l0_2 l0_3) = some r := by rw [if_neg (show ¬ (false = true) by decide)] at H; exact H
    clear H
    have H := H1
    clear H1
    have H' := Am H
    clear H
    go_wp2
    go_loopg [3] kj1 (fun kq v3 w' => ∃ (x3_2 : Int), v3 = .int .i64 x3_2 ∧ Aside0 (surmiselaw05_light.l0 kq x3_2 l0_0 l0_1 l0_2 l0_3 = some r) ∧ Aside0 (kq ≤ kj1) ∧ Aside0 (w'.heap[gb500]? = some (.cells #[(.slice A0_0 l0_0.length c0_0), (.slice A0_1 l0_1.length c0_1), (.slice A0_2 l0_2.length c0_2), (.slice A0_3 l0_3.length c0_3)] 26 (0, 0))) ∧ Aside0 (Below w.heap.size w w'))
    case atStart => exact ⟨(0), rq, H', ⟨Nat.le_refl _⟩, ⟨kB BK500⟩, ⟨bs⟩⟩
    case round =>
     clear H'
     try clear c1
     try clear p2
     try clear c4
     try clear c4b0
     try clear c4b1
     try clear c6
     try clear c6b0
     try clear c6b1
     try clear c9
     try clear hcz5_0
     try clear hcz5_1
     try clear hcz5_2
     try clear hcz5_3
     try clear hcz7_0
     try clear hcz7_1
     try clear hcz7_2
     try clear hcz7_3
     try clear hcz8_0
     try clear hcz8_1
     try clear hcz8_2
     try clear hcz8_3
     try clear hfz5_0
     try clear hfz5_1
     try clear hfz5_2
     try clear hfz5_3
     try clear hfz7_0
     try clear hfz7_1
     try clear hfz7_2
     try clear hfz7_3
     try clear hfz8_0
     try clear hfz8_1
     try clear hfz8_2
     try clear hfz8_3
     try clear p2
     obtain ⟨x3_2, rfl, HA, HK2, BK500, HB⟩ := hrel
     cases gk with
     | zero => exact absurd HA.out (by simp [surmiselaw05_light.l0])
     | succ k2 =>
      have H := HA.out
      clear HA
      simp only [surmiselaw05_light.l0] at H
      by_cases c10 : x3_2 < (l0_3.length : Int)
      ·
       rw [if_pos c10] at H
       have c10b0 : decide (x3_2 < (l0_3.length : Int)) = true := decide_eq_true c10
       clear c10
       by_cases c11 : 0 ≤ x3_2
       ·
        rw [if_pos c11] at H
        have c11b0 : decide (0 ≤ x3_2) = true := decide_eq_true c11
        clear c11
        by_cases c12 : (((rd_T38 l0_3 x3_2).f2).length : Int) > 40
        ·
         rw [if_pos c12] at H
         have c12b0 : decide (40 < (((rd_T38 l0_3 x3_2).f2).length : Int)) = true := decide_eq_true c12
         have c12b1 : decide (40 < ((rd_T38 l0_3 x3_2).f2).length) = true := decide_eq_true (by omega)
         clear c12
         obtain rfl := Option.some.inj H
         have hcz13_0 := cz0 BK500.out
         have hcz13_1 := cz1 BK500.out
         have hcz13_2 := cz2 BK500.out
         have hcz13_3 := cz3 BK500.out
         have hfz13_0 := fz BK500 0
         have hfz13_1 := fz BK500 1
         have hfz13_2 := fz BK500 2
         have hfz13_3 := fz BK500 3
         have p501 : 0 ≤ (x3_2 : Int) := of_decide_eq_true az
         have q501 : x3_2 < (l0_3.length : Int) := of_decide_eq_true az
         obtain ⟨ad501, A501_2, c501_2, A501_3, c501_3, A501_4, c501_4, e501, hx501_0, hx501_1, hx501_2, hx501_3, hx501_4, hl501_2, hi501_2, hl501_3, hi501_3, hl501_4, hi501_4⟩ := at_T38 HR0_3.out x3_2 p501 q501
         cases e501
         replace hx501_0 := hX HB hx501_0
         replace hx501_1 := hX HB hx501_1
         replace hx501_2 := hX HB hx501_2
         replace hx501_3 := hX HB hx501_3
         replace hx501_4 := hX HB hx501_4
         have HR501_2 := Am hi501_2
         have HC501_2 := Am hl501_2
         clear hi501_2 hl501_2
         have HR501_3 := Am hi501_3
         have HC501_3 := Am hl501_3
         clear hi501_3 hl501_3
         have HR501_4 := Am hi501_4
         have HC501_4 := Am hl501_4
         clear hi501_4 hl501_4
         replace p501 := eq_true p501
         replace q501 := eq_true q501
         go_wp2
         go_ret
         exact ⟨xq, bs⟩
        ·
         rw [if_neg c12] at H
         have c12b0 : decide (40 < (((rd_T38 l0_3 x3_2).f2).length : Int)) = false := decide_eq_false c12
         have c12b1 : decide (40 < ((rd_T38 l0_3 x3_2).f2).length) = false := decide_eq_false (by omega)
         clear c12
         by_cases c14 : (((rd_T38 l0_3 x3_2).f4).length : Int) > 40
         ·
          rw [if_pos c14] at H
          have c14b0 : decide (40 < (((rd_T38 l0_3 x3_2).f4).length : Int)) = true := decide_eq_true c14
          have c14b1 : decide (40 < ((rd_T38 l0_3 x3_2).f4).length) = true := decide_eq_true (by omega)
          clear c14
          obtain rfl := Option.some.inj H
          have hcz15_0 := cz0 BK500.out
          have hcz15_1 := cz1 BK500.out
          have hcz15_2 := cz2 BK500.out
          have hcz15_3 := cz3 BK500.out
          have hfz15_0 := fz BK500 0
          have hfz15_1 := fz BK500 1
          have hfz15_2 := fz BK500 2
          have hfz15_3 := fz BK500 3
          have p501 : 0 ≤ (x3_2 : Int) := of_decide_eq_true az
          have q501 : x3_2 < (l0_3.length : Int) := of_decide_eq_true az
          obtain ⟨ad501, A501_2, c501_2, A501_3, c501_3, A501_4, c501_4, e501, hx501_0, hx501_1, hx501_2, hx501_3, hx501_4, hl501_2, hi501_2, hl501_3, hi501_3, hl501_4, hi501_4⟩ := at_T38 HR0_3.out x3_2 p501 q501
          cases e501
          replace hx501_0 := hX HB hx501_0
          replace hx501_1 := hX HB hx501_1
          replace hx501_2 := hX HB hx501_2
          replace hx501_3 := hX HB hx501_3
          replace hx501_4 := hX HB hx501_4
          have HR501_2 := Am hi501_2
          have HC501_2 := Am hl501_2
          clear hi501_2 hl501_2
          have HR501_3 := Am hi501_3
          have HC501_3 := Am hl501_3
          clear hi501_3 hl501_3
          have HR501_4 := Am hi501_4
          have HC501_4 := Am hl501_4
          clear hi501_4 hl501_4
          replace p501 := eq_true p501
          replace q501 := eq_true q501
          have p502 : 0 ≤ (x3_2 : Int) := of_decide_eq_true az
          have q502 : x3_2 < (l0_3.length : Int) := of_decide_eq_true az
          obtain ⟨ad502, A502_2, c502_2, A502_3, c502_3, A502_4, c502_4, e502, hx502_0, hx502_1, hx502_2, hx502_3, hx502_4, hl502_2, hi502_2, hl502_3, hi502_3, hl502_4, hi502_4⟩ := at_T38 HR0_3.out x3_2 p502 q502
          obtain rfl : ad501 = ad502 := (by injection e502)
          replace hx502_0 := hX HB hx502_0
          replace hx502_1 := hX HB hx502_1
          replace hx502_2 := hX HB hx502_2
          replace hx502_3 := hX HB hx502_3
          replace hx502_4 := hX HB hx502_4
          have HR502_2 := Am hi502_2
          have HC502_2 := Am hl502_2
          clear hi502_2 hl502_2
          have HR502_3 := Am hi502_3
          have HC502_3 := Am hl502_3
          clear hi502_3 hl502_3
          have HR502_4 := Am hi502_4
          have HC502_4 := Am hl502_4
          clear hi502_4 hl502_4
          replace p502 := eq_true p502
          replace q502 := eq_true q502
          have ea_ := Option.some.inj (hx501_2.symm.trans hx502_2)
          injection ea_ with ea_ en_ ec_
          subst ea_
          subst ec_
          clear en_
          have ea_ := Option.some.inj (hx501_3.symm.trans hx502_3)
          injection ea_ with ea_ en_ ec_
          subst ea_
          subst ec_
          clear en_
          have ea_ := Option.some.inj (hx501_4.symm.trans hx502_4)
          injection ea_ with ea_ en_ ec_
          subst ea_
          subst ec_
          clear en_
          go_wp2
          go_ret
          exact ⟨xq, bs⟩
         ·
          rw [if_neg c14] at H
          have c14b0 : decide (40 < (((rd_T38 l0_3 x3_2).f4).length : Int)) = false := decide_eq_false c14
          have c14b1 : decide (40 < ((rd_T38 l0_3 x3_2).f4).length) = false := decide_eq_false (by omega)
          clear c14
          by_cases c16 : (((rd_T38 l0_3 x3_2).f3).length : Int) > 40
          ·
           rw [if_pos c16] at H
           have c16b0 : decide (40 < (((rd_T38 l0_3 x3_2).f3).length : Int)) = true := decide_eq_true c16
           have c16b1 : decide (40 < ((rd_T38 l0_3 x3_2).f3).length) = true := decide_eq_true (by omega)
           clear c16
           obtain rfl := Option.some.inj H
           have hcz17_0 := cz0 BK500.out
           have hcz17_1 := cz1 BK500.out
           have hcz17_2 := cz2 BK500.out
           have hcz17_3 := cz3 BK500.out
           have hfz17_0 := fz BK500 0
           have hfz17_1 := fz BK500 1
           have hfz17_2 := fz BK500 2
           have hfz17_3 := fz BK500 3
           have p501 : 0 ≤ (x3_2 : Int) := of_decide_eq_true az
           have q501 : x3_2 < (l0_3.length : Int) := of_decide_eq_true az
           obtain ⟨ad501, A501_2, c501_2, A501_3, c501_3, A501_4, c501_4, e501, hx501_0, hx501_1, hx501_2, hx501_3, hx501_4, hl501_2, hi501_2, hl501_3, hi501_3, hl501_4, hi501_4⟩ := at_T38 HR0_3.out x3_2 p501 q501
           cases e501
           replace hx501_0 := hX HB hx501_0
           replace hx501_1 := hX HB hx501_1
           replace hx501_2 := hX HB hx501_2
           replace hx501_3 := hX HB hx501_3
           replace hx501_4 := hX HB hx501_4
           have HR501_2 := Am hi501_2
           have HC501_2 := Am hl501_2
           clear hi501_2 hl501_2
           have HR501_3 := Am hi501_3
           have HC501_3 := Am hl501_3
           clear hi501_3 hl501_3
           have HR501_4 := Am hi501_4
           have HC501_4 := Am hl501_4
           clear hi501_4 hl501_4
           replace p501 := eq_true p501
           replace q501 := eq_true q501
           have p502 : 0 ≤ (x3_2 : Int) := of_decide_eq_true az
           have q502 : x3_2 < (l0_3.length : Int) := of_decide_eq_true az
           obtain ⟨ad502, A502_2, c502_2, A502_3, c502_3, A502_4, c502_4, e502, hx502_0, hx502_1, hx502_2, hx502_3, hx502_4, hl502_2, hi502_2, hl502_3, hi502_3, hl502_4, hi502_4⟩ := at_T38 HR0_3.out x3_2 p502 q502
           obtain rfl : ad501 = ad502 := (by injection e502)
           replace hx502_0 := hX HB hx502_0
           replace hx502_1 := hX HB hx502_1
           replace hx502_2 := hX HB hx502_2
           replace hx502_3 := hX HB hx502_3
           replace hx502_4 := hX HB hx502_4
           have HR502_2 := Am hi502_2
           have HC502_2 := Am hl502_2
           clear hi502_2 hl502_2
           have HR502_3 := Am hi502_3
           have HC502_3 := Am hl502_3
           clear hi502_3 hl502_3
           have HR502_4 := Am hi502_4
           have HC502_4 := Am hl502_4
           clear hi502_4 hl502_4
           replace p502 := eq_true p502
           replace q502 := eq_true q502
           have ea_ := Option.some.inj (hx501_2.symm.trans hx502_2)
           injection ea_ with ea_ en_ ec_
           subst ea_
           subst ec_
           clear en_
           have ea_ := Option.some.inj (hx501_3.symm.trans hx502_3)
           injection ea_ with ea_ en_ ec_
           subst ea_
           subst ec_
           clear en_
           have ea_ := Option.some.inj (hx501_4.symm.trans hx502_4)
           injection ea_ with ea_ en_ ec_
           subst ea_
           subst ec_
           clear en_
           have p503 : 0 ≤ (x3_2 : Int) := of_decide_eq_true az
           have q503 : x3_2 < (l0_3.length : Int) := of_decide_eq_true az
           obtain ⟨ad503, A503_2, c503_2, A503_3, c503_3, A503_4, c503_4, e503, hx503_0, hx503_1, hx503_2, hx503_3, hx503_4, hl503_2, hi503_2, hl503_3, hi503_3, hl503_4, hi503_4⟩ := at_T38 HR0_3.out x3_2 p503 q503
           obtain rfl : ad501 = ad503 := (by injection e503)
           replace hx503_0 := hX HB hx503_0
           replace hx503_1 := hX HB hx503_1
           replace hx503_2 := hX HB hx503_2
           replace hx503_3 := hX HB hx503_3
           replace hx503_4 := hX HB hx503_4
           have HR503_2 := Am hi503_2
           have HC503_2 := Am hl503_2
           clear hi503_2 hl503_2
           have HR503_3 := Am hi503_3
           have HC503_3 := Am hl503_3
           clear hi503_3 hl503_3
           have HR503_4 := Am hi503_4
           have HC503_4 := Am hl503_4
           clear hi503_4 hl503_4
           replace p503 := eq_true p503
           replace q503 := eq_true q503
           have ea_ := Option.some.inj (hx501_2.symm.trans hx503_2)
           injection ea_ with ea_ en_ ec_
           subst ea_
           subst ec_
           clear en_
           have ea_ := Option.some.inj (hx501_3.symm.trans hx503_3)
           injection ea_ with ea_ en_ ec_
           subst ea_
           subst ec_
           clear en_
           have ea_ := Option.some.inj (hx501_4.symm.trans hx503_4)
           injection ea_ with ea_ en_ ec_
           subst ea_
           subst ec_
           clear en_
           go_wp2
           go_ret
           exact ⟨xq, bs⟩
          ·
           rw [if_neg c16] at H
           have c16b0 : decide (40 < (((rd_T38 l0_3 x3_2).f3).length : Int)) = false := decide_eq_false c16
           have c16b1 : decide (40 < ((rd_T38 l0_3 x3_2).f3).length) = false := decide_eq_false (by omega)
           clear c16
           have H' := Am H
           clear H
           have hcz18_0 := cz0 BK500.out
           have hcz18_1 := cz1 BK500.out
           have hcz18_2 := cz2 BK500.out
           have hcz18_3 := cz3 BK500.out
           have hfz18_0 := fz BK500 0
           have hfz18_1 := fz BK500 1
           have hfz18_2 := fz BK500 2
           have hfz18_3 := fz BK500 3
           have p501 : 0 ≤ (x3_2 : Int) := of_decide_eq_true az
           have q501 : x3_2 < (l0_3.length : Int) := of_decide_eq_true az
           obtain ⟨ad501, A501_2, c501_2, A501_3, c501_3, A501_4, c501_4, e501, hx501_0, hx501_1, hx501_2, hx501_3, hx501_4, hl501_2, hi501_2, hl501_3, hi501_3, hl501_4, hi501_4⟩ := at_T38 HR0_3.out x3_2 p501 q501
           cases e501
           replace hx501_0 := hX HB hx501_0
           replace hx501_1 := hX HB hx501_1
           replace hx501_2 := hX HB hx501_2
           replace hx501_3 := hX HB hx501_3
           replace hx501_4 := hX HB hx501_4
           have HR501_2 := Am hi501_2
           have HC501_2 := Am hl501_2
           clear hi501_2 hl501_2
           have HR501_3 := Am hi501_3
           have HC501_3 := Am hl501_3
           clear hi501_3 hl501_3
           have HR501_4 := Am hi501_4
           have HC501_4 := Am hl501_4
           clear hi501_4 hl501_4
           replace p501 := eq_true p501
           replace q501 := eq_true q501
           have p502 : 0 ≤ (x3_2 : Int) := of_decide_eq_true az
           have q502 : x3_2 < (l0_3.length : Int) := of_decide_eq_true az
           obtain ⟨ad502, A502_2, c502_2, A502_3, c502_3, A502_4, c502_4, e502, hx502_0, hx502_1, hx502_2, hx502_3, hx502_4, hl502_2, hi502_2, hl502_3, hi502_3, hl502_4, hi502_4⟩ := at_T38 HR0_3.out x3_2 p502 q502
           obtain rfl : ad501 = ad502 := (by injection e502)
           replace hx502_0 := hX HB hx502_0
           replace hx502_1 := hX HB hx502_1
           replace hx502_2 := hX HB hx502_2
           replace hx502_3 := hX HB hx502_3
           replace hx502_4 := hX HB hx502_4
           have HR502_2 := Am hi502_2
           have HC502_2 := Am hl502_2
           clear hi502_2 hl502_2
           have HR502_3 := Am hi502_3
           have HC502_3 := Am hl502_3
           clear hi502_3 hl502_3
           have HR502_4 := Am hi502_4
           have HC502_4 := Am hl502_4
           clear hi502_4 hl502_4
           replace p502 := eq_true p502
           replace q502 := eq_true q502
           have ea_ := Option.some.inj (hx501_2.symm.trans hx502_2)
           injection ea_ with ea_ en_ ec_
           subst ea_
           subst ec_
           clear en_
           have ea_ := Option.some.inj (hx501_3.symm.trans hx502_3)
           injection ea_ with ea_ en_ ec_
           subst ea_
           subst ec_
           clear en_
           have ea_ := Option.some.inj (hx501_4.symm.trans hx502_4)
           injection ea_ with ea_ en_ ec_
           subst ea_
           subst ec_
           clear en_
           have p503 : 0 ≤ (x3_2 : Int) := of_decide_eq_true az
           have q503 : x3_2 < (l0_3.length : Int) := of_decide_eq_true az
           obtain ⟨ad503, A503_2, c503_2, A503_3, c503_3, A503_4, c503_4, e503, hx503_0, hx503_1, hx503_2, hx503_3, hx503_4, hl503_2, hi503_2, hl503_3, hi503_3, hl503_4, hi503_4⟩ := at_T38 HR0_3.out x3_2 p503 q503
           obtain rfl : ad501 = ad503 := (by injection e503)
           replace hx503_0 := hX HB hx503_0
           replace hx503_1 := hX HB hx503_1
           replace hx503_2 := hX HB hx503_2
           replace hx503_3 := hX HB hx503_3
           replace hx503_4 := hX HB hx503_4
           have HR503_2 := Am hi503_2
           have HC503_2 := Am hl503_2
           clear hi503_2 hl503_2
           have HR503_3 := Am hi503_3
           have HC503_3 := Am hl503_3
           clear hi503_3 hl503_3
           have HR503_4 := Am hi503_4
           have HC503_4 := Am hl503_4
           clear hi503_4 hl503_4
           replace p503 := eq_true p503
           replace q503 := eq_true q503
           have ea_ := Option.some.inj (hx501_2.symm.trans hx503_2)
           injection ea_ with ea_ en_ ec_
           subst ea_
           subst ec_
           clear en_
           have ea_ := Option.some.inj (hx501_3.symm.trans hx503_3)
           injection ea_ with ea_ en_ ec_
           subst ea_
           subst ec_
           clear en_
           have ea_ := Option.some.inj (hx501_4.symm.trans hx503_4)
           injection ea_ with ea_ en_ ec_
           subst ea_
           subst ec_
           clear en_
           go_wp2
           go_roundg k2
           case measure => have := HJ1.out; have := HK2.out; omega
           case rel => exact ⟨(wrap64 (x3_2 + 1)), rq, H', ⟨by have := HJ1.out; have := HK2.out; omega⟩, ⟨kB BK500⟩, ⟨bs⟩⟩
       ·
        rw [if_neg c11] at H
        exact absurd H (by simp)
      ·
       rw [if_neg c10] at H
       have c10b0 : decide (x3_2 < (l0_3.length : Int)) = false := decide_eq_false c10
       clear c10
       obtain rfl := Option.some.inj H
       have hcz19_0 := cz0 BK500.out
       have hcz19_1 := cz1 BK500.out
       have hcz19_2 := cz2 BK500.out
       have hcz19_3 := cz3 BK500.out
       have hfz19_0 := fz BK500 0
       have hfz19_1 := fz BK500 1
       have hfz19_2 := fz BK500 2
       have hfz19_3 := fz BK500 3
       go_wp2
       go_ret
       exact ⟨xq, bs⟩

end Go.Proofs.Ytdfhbmallnegfaa.PA
