-- Written by a program (wip/tools/gprint.py: a patched copy of the kit's print) and by hand, for this claim
import Derived.Test.YtdfhbmallnegfaaPAx0
namespace Go.Proofs.Ytdfhbmallnegfaa.PA
open Go.RowKit Go.Proofs.YtdfhbmallnegfaaW.PrintWords Go.Proofs.YtdfhbmallnegfaaW.PrintLast Go.Proofs.YtdfhbmallnegfaaW.PrintMore
attribute [local go_sem] max2_int min2_int max_two min_two max_three min_three max_four min_four   -- for this text's walks alone
set_option linter.unusedVariables false
set_option linter.unusedSimpArgs false

/-! ### surmiseref05_For: function 14 -/
mutual
def surmiseref05_For.j0 : Nat → Int → Int → Bool → List ByteArray → List ByteArray → List Int → List (S38) → Option (Bool)
 | 0, _, _, _, _, _, _, _ => none
 | k + 1, x1, x2, x28, x505000, x505001, x505002, x505003 => if x28 = true then (some false) else (if 0 ≤ x1 then (if x1 < (x505003.length : Int) then (surmiseref05_For.l0 k x1 x2 ((((rd_T38 x505003 x1).f2).length : Int) == 0) 0 x505000 x505001 x505002 x505003) else (none)) else (none))
def surmiseref05_For.l0 : Nat → Int → Int → Bool → Int → List ByteArray → List ByteArray → List Int → List (S38) → Option (Bool)
 | 0, _, _, _, _, _, _, _, _ => none
 | k + 1, x1, x2, x7, x8, x505000, x505001, x505002, x505003 => if 0 ≤ x1 then (if x1 < (x505003.length : Int) then (if x8 < (((rd_T38 x505003 x1).f2).length : Int) then (if x7 = true then (surmiseref05_For.l0 k x1 x2 true (wrap64 (x8 + 1)) x505000 x505001 x505002 x505003) else (if 0 ≤ x8 then (surmiseref05_For.l0 k x1 x2 ((rd ((rd_T38 x505003 x1).f2) x8) == x2) (wrap64 (x8 + 1)) x505000 x505001 x505002 x505003) else (none))) else (some x7)) else (none)) else (none)
end
def surmiseref05_For.f (k : Nat) (l0_0 : List ByteArray) (l0_1 : List ByteArray) (l0_2 : List Int) (l0_3 : List (S38)) (a1 : Int) (a2 : Int) : Option (Bool) := if a1 < 0 then (surmiseref05_For.j0 k a1 a2 true l0_0 l0_1 l0_2 l0_3) else (if a1 ≥ (l0_3.length : Int) then (surmiseref05_For.j0 k a1 a2 true l0_0 l0_1 l0_2 l0_3) else (if a2 < 0 then (surmiseref05_For.j0 k a1 a2 true l0_0 l0_1 l0_2 l0_3) else (surmiseref05_For.j0 k a1 a2 (decide (a2 ≥ (l0_0.length : Int))) l0_0 l0_1 l0_2 l0_3)))
theorem surmiseref05_For.mono_l : ∀ k, (∀ y0 y1 y2 y3 y4 y5 y6, LeO (surmiseref05_For.j0 k y0 y1 y2 y3 y4 y5 y6) (surmiseref05_For.j0 (k + 1) y0 y1 y2 y3 y4 y5 y6)) ∧ (∀ y0 y1 y2 y3 y4 y5 y6 y7, LeO (surmiseref05_For.l0 k y0 y1 y2 y3 y4 y5 y6 y7) (surmiseref05_For.l0 (k + 1) y0 y1 y2 y3 y4 y5 y6 y7))
 | 0 => ⟨fun _ _ _ _ _ _ _ r h => by simp [surmiseref05_For.j0] at h, fun _ _ _ _ _ _ _ _ r h => by simp [surmiseref05_For.l0] at h⟩
 | k + 1 => by
  obtain ⟨ih0, ih1⟩ := surmiseref05_For.mono_l k
  refine ⟨?_, ?_⟩
  ·
   intro y0 y1 y2 y3 y4 y5 y6
   unfold surmiseref05_For.j0
   repeat' first
   | (with_reducible exact ih0 _ _ _ _ _ _ _)
   | (with_reducible exact ih1 _ _ _ _ _ _ _ _)
   | (with_reducible exact LeO.refl _)
   | (with_reducible exact LeO.none _)
   | (with_reducible refine LeO.ite ?_ ?_)
   | (with_reducible refine LeO.bind ?_ (fun _ => ?_))
   | exact ih0 _ _ _ _ _ _ _
   | exact ih1 _ _ _ _ _ _ _ _
   | exact LeO.none _
   | refine LeO.ite ?_ ?_
   | refine LeO.bind ?_ (fun _ => ?_)
  ·
   intro y0 y1 y2 y3 y4 y5 y6 y7
   unfold surmiseref05_For.l0
   repeat' first
   | (with_reducible exact ih0 _ _ _ _ _ _ _)
   | (with_reducible exact ih1 _ _ _ _ _ _ _ _)
   | (with_reducible exact LeO.refl _)
   | (with_reducible exact LeO.none _)
   | (with_reducible refine LeO.ite ?_ ?_)
   | (with_reducible refine LeO.bind ?_ (fun _ => ?_))
   | exact ih0 _ _ _ _ _ _ _
   | exact ih1 _ _ _ _ _ _ _ _
   | exact LeO.none _
   | refine LeO.ite ?_ ?_
   | refine LeO.bind ?_ (fun _ => ?_)
theorem surmiseref05_For.mono : ∀ a0 a1 a2 a3 a4 a5 k, LeO (surmiseref05_For.f k a0 a1 a2 a3 a4 a5) (surmiseref05_For.f (k + 1) a0 a1 a2 a3 a4 a5) := by
 intro a0 a1 a2 a3 a4 a5 k
 obtain ⟨ih0, ih1⟩ := surmiseref05_For.mono_l k
 unfold surmiseref05_For.f
 repeat' first
   | (with_reducible exact ih0 _ _ _ _ _ _ _)
   | (with_reducible exact ih1 _ _ _ _ _ _ _ _)
   | (with_reducible exact LeO.refl _)
   | (with_reducible exact LeO.none _)
   | (with_reducible refine LeO.ite ?_ ?_)
   | (with_reducible refine LeO.bind ?_ (fun _ => ?_))
   | exact ih0 _ _ _ _ _ _ _
   | exact ih1 _ _ _ _ _ _ _ _
   | exact LeO.none _
   | refine LeO.ite ?_ ?_
   | refine LeO.bind ?_ (fun _ => ?_)
set_option maxHeartbeats 8000000 in
set_option maxRecDepth 100000 in
theorem surmiseref05_For.calls (k : Nat) (A0_0 : Option Addr) (c0_0 : Nat) (l0_0 : List ByteArray) (A0_1 : Option Addr) (c0_1 : Nat) (l0_1 : List ByteArray) (A0_2 : Option Addr) (c0_2 : Nat) (l0_2 : List Int) (A0_3 : Option Addr) (c0_3 : Nat) (l0_3 : List (S38)) (a1 : Int) (a2 : Int) (r : Bool) (w : World) (hr0_0 : Kd.C Kd.string w A0_0 l0_0.length l0_0) (hc0_0 : l0_0.length ≤ c0_0) (hr0_1 : Kd.C Kd.string w A0_1 l0_1.length l0_1) (hc0_1 : l0_1.length ≤ c0_1) (hr0_2 : Kd.C (Kd.int .i64) w A0_2 l0_2.length l0_2) (hc0_2 : l0_2.length ≤ c0_2) (hr0_3 : Kd.C k38 w A0_3 l0_3.length l0_3) (hc0_3 : l0_3.length ≤ c0_3) (h : surmiseref05_For.f k l0_0 l0_1 l0_2 l0_3 a1 a2 = some r) :
  Calls Try.prog 14 #[.agg #[.slice A0_0 l0_0.length c0_0, .slice A0_1 l0_1.length c0_1, .slice A0_2 l0_2.length c0_2, .slice A0_3 l0_3.length c0_3], .int .i64 a1, .int .i64 a2] w fun e w' => e = .returned (.bool r) ∧ Below w.heap.size w w' := by
 have hu26 := Try.underlying26
 have HR0_0 := Am hr0_0
 have HC0_0 := Am hc0_0
 clear hr0_0 hc0_0
 have HR0_1 := Am hr0_1
 have HC0_1 := Am hc0_1
 clear hr0_1 hc0_1
 have HR0_2 := Am hr0_2
 have HC0_2 := Am hc0_2
 clear hr0_2 hc0_2
 have HR0_3 := Am hr0_3
 have HC0_3 := Am hc0_3
 clear hr0_3 hc0_3
 have HB := Am (Below.refl w.heap.size w)
 have H : (if a1 < 0 then (surmiseref05_For.j0 k a1 a2 true l0_0 l0_1 l0_2 l0_3) else (if a1 ≥ (l0_3.length : Int) then (surmiseref05_For.j0 k a1 a2 true l0_0 l0_1 l0_2 l0_3) else (if a2 < 0 then (surmiseref05_For.j0 k a1 a2 true l0_0 l0_1 l0_2 l0_3) else (surmiseref05_For.j0 k a1 a2 (decide (a2 ≥ (l0_0.length : Int))) l0_0 l0_1 l0_2 l0_3)))) = some r := h
 clear h
 have HC4 := Am H
 clear H
 go_enter Try.func14, Try.ntmps14
 go_upto_region 1 with (first | ((with_reducible refine gate_dst (N := 3) rfl ?_); (try (refine gate_guard (by rfl) ?_; dsimp only)); refine bxe (N := 3) (cs := #[.slice A0_0 l0_0.length c0_0, .slice A0_1 l0_1.length c0_1, .slice A0_2 l0_2.length c0_2, .slice A0_3 l0_3.length c0_3]) (t := 26) ?_; intro gb504 hg w5 hbox hb; have n0_ := Am (below_step (bl) hb); have n1_ := Am (hbox); have n2_ := Am ((gE hg : w.heap.size ≤ gb504)); have n3_ := Am ((gE hg : w.heap.size ≤ gb504)); clear HB; have HB := n0_; have BK504 := n1_; have GW504 := n2_; have GE504 := n3_; clear n0_ n1_ n2_ n3_; clear hb hbox hg))
 (try simp only [Act.put, List.setIfInBounds_toArray, List.set_cons_zero, List.set_cons_succ])
 go_cut [28] (fun v28 wc => ∃ (kq : Nat) (x28_3 : Bool), v28 = .bool x28_3 ∧ Aside0 (surmiseref05_For.j0 kq a1 a2 x28_3 l0_0 l0_1 l0_2 l0_3 = some r) ∧ Aside0 (kq ≤ k) ∧ Aside0 (wc.heap[gb504]? = some (.cells #[(.slice A0_0 l0_0.length c0_0), (.slice A0_1 l0_1.length c0_1), (.slice A0_2 l0_2.length c0_2), (.slice A0_3 l0_3.length c0_3)] 26 (0, 0))) ∧ Aside0 (Below w.heap.size w wc))
 case first =>
  have H := HC4.out
  clear HC4
  by_cases c6 : a1 < 0
  ·
   rw [if_pos c6] at H
   have c6b0 : decide (a1 < 0) = true := decide_eq_true c6
   clear c6
   (first | rw [c6b0] | (simp only [i64_w, i32_w]; rw [c6b0]) | skip)
   have H' := Am H
   clear H
   go_wp2
   go_meet
   case rel => exact ⟨_, (true), rq, H', ⟨by first | omega | exact Nat.le_refl _⟩, ⟨kB BK504⟩, ⟨bs⟩⟩
  ·
   rw [if_neg c6] at H
   have c6b0 : decide (a1 < 0) = false := decide_eq_false c6
   clear c6
   (first | rw [c6b0] | (simp only [i64_w, i32_w]; rw [c6b0]) | skip)
   by_cases c7 : a1 ≥ (l0_3.length : Int)
   ·
    rw [if_pos c7] at H
    have c7b0 : decide ((l0_3.length : Int) ≤ a1) = true := decide_eq_true c7
    clear c7
    have H' := Am H
    clear H
    have hcz8_0 := cz0 BK504.out
    have hcz8_1 := cz1 BK504.out
    have hcz8_2 := cz2 BK504.out
    have hcz8_3 := cz3 BK504.out
    have hfz8_0 := fz BK504 0
    have hfz8_1 := fz BK504 1
    have hfz8_2 := fz BK504 2
    have hfz8_3 := fz BK504 3
    go_wp2
    go_meet
    case rel => exact ⟨_, (true), rq, H', ⟨by first | omega | exact Nat.le_refl _⟩, ⟨kB BK504⟩, ⟨bs⟩⟩
   ·
    rw [if_neg c7] at H
    have c7b0 : decide ((l0_3.length : Int) ≤ a1) = false := decide_eq_false c7
    clear c7
    by_cases c9 : a2 < 0
    ·
     rw [if_pos c9] at H
     have c9b0 : decide (a2 < 0) = true := decide_eq_true c9
     clear c9
     have H' := Am H
     clear H
     have hcz10_0 := cz0 BK504.out
     have hcz10_1 := cz1 BK504.out
     have hcz10_2 := cz2 BK504.out
     have hcz10_3 := cz3 BK504.out
     have hfz10_0 := fz BK504 0
     have hfz10_1 := fz BK504 1
     have hfz10_2 := fz BK504 2
     have hfz10_3 := fz BK504 3
     go_wp2
     go_meet
     case rel => exact ⟨_, (true), rq, H', ⟨by first | omega | exact Nat.le_refl _⟩, ⟨kB BK504⟩, ⟨bs⟩⟩
    ·
     rw [if_neg c9] at H
     have c9b0 : decide (a2 < 0) = false := decide_eq_false c9
     clear c9
     have H' := Am H
     clear H
     have hcz11_0 := cz0 BK504.out
     have hcz11_1 := cz1 BK504.out
     have hcz11_2 := cz2 BK504.out
     have hcz11_3 := cz3 BK504.out
     have hfz11_0 := fz BK504 0
     have hfz11_1 := fz BK504 1
     have hfz11_2 := fz BK504 2
     have hfz11_3 := fz BK504 3
     go_wp2
     go_meet
     case rel => exact ⟨_, (decide (a2 ≥ (l0_0.length : Int))), rq, H', ⟨by first | omega | exact Nat.le_refl _⟩, ⟨kB BK504⟩, ⟨bs⟩⟩
 case rest =>
  clear HC4
  try clear c1
  try clear p2
  try clear c6
  try clear c6b0
  try clear c7
  try clear c7b0
  try clear c9
  try clear c9b0
  try clear hcz10_0
  try clear hcz10_1
  try clear hcz10_2
  try clear hcz10_3
  try clear hcz11_0
  try clear hcz11_1
  try clear hcz11_2
  try clear hcz11_3
  try clear hcz8_0
  try clear hcz8_1
  try clear hcz8_2
  try clear hcz8_3
  try clear hfz10_0
  try clear hfz10_1
  try clear hfz10_2
  try clear hfz10_3
  try clear hfz11_0
  try clear hfz11_1
  try clear hfz11_2
  try clear hfz11_3
  try clear hfz8_0
  try clear hfz8_1
  try clear hfz8_2
  try clear hfz8_3
  obtain ⟨kq, x28_3, rfl, HA, HJ3, BK504, HB⟩ := hcut
  cases kq with
  | zero => exact absurd HA.out (by simp [surmiseref05_For.j0])
  | succ kj3 =>
   have H := HA.out
   clear HA
   simp only [surmiseref05_For.j0] at H
   by_cases c12 : x28_3 = true
   ·
    subst c12
    have H1 : (some false) = some r := by rw [if_pos rfl] at H; exact H
    clear H
    have H := H1
    clear H1
    obtain rfl := Option.some.inj H
    go_wp2
    go_ret
    exact ⟨xq, bs⟩
   ·
    replace c12 := Bool.eq_false_iff.mpr c12
    subst c12
    have H1 : (if 0 ≤ a1 then (if a1 < (l0_3.length : Int) then (surmiseref05_For.l0 kj3 a1 a2 ((((rd_T38 l0_3 a1).f2).length : Int) == 0) 0 l0_0 l0_1 l0_2 l0_3) else (none)) else (none)) = some r := by rw [if_neg (show ¬ (false = true) by decide)] at H; exact H
    clear H
    have H := H1
    clear H1
    by_cases c13 : 0 ≤ a1
    ·
     rw [if_pos c13] at H
     have c13b0 : decide (0 ≤ a1) = true := decide_eq_true c13
     clear c13
     by_cases c14 : a1 < (l0_3.length : Int)
     ·
      rw [if_pos c14] at H
      have c14b0 : decide (a1 < (l0_3.length : Int)) = true := decide_eq_true c14
      clear c14
      have H' := Am H
      clear H
      have hcz15_0 := cz0 BK504.out
      have hcz15_1 := cz1 BK504.out
      have hcz15_2 := cz2 BK504.out
      have hcz15_3 := cz3 BK504.out
      have hfz15_0 := fz BK504 0
      have hfz15_1 := fz BK504 1
      have hfz15_2 := fz BK504 2
      have hfz15_3 := fz BK504 3
      have p505 : 0 ≤ (a1 : Int) := of_decide_eq_true az
      have q505 : a1 < (l0_3.length : Int) := of_decide_eq_true az
      obtain ⟨ad505, A505_2, c505_2, A505_3, c505_3, A505_4, c505_4, e505, hx505_0, hx505_1, hx505_2, hx505_3, hx505_4, hl505_2, hi505_2, hl505_3, hi505_3, hl505_4, hi505_4⟩ := at_T38 HR0_3.out a1 p505 q505
      cases e505
      replace hx505_0 := hX HB hx505_0
      replace hx505_1 := hX HB hx505_1
      replace hx505_2 := hX HB hx505_2
      replace hx505_3 := hX HB hx505_3
      replace hx505_4 := hX HB hx505_4
      have HR505_2 := Am hi505_2
      have HC505_2 := Am hl505_2
      clear hi505_2 hl505_2
      have HR505_3 := Am hi505_3
      have HC505_3 := Am hl505_3
      clear hi505_3 hl505_3
      have HR505_4 := Am hi505_4
      have HC505_4 := Am hl505_4
      clear hi505_4 hl505_4
      replace p505 := eq_true p505
      replace q505 := eq_true q505
      go_wp2
      go_loopg [7, 8] kj3 (fun kq v7 v8 w' => ∃ (x7_2 : Bool) (x8_2 : Int), v7 = .bool x7_2 ∧ v8 = .int .i64 x8_2 ∧ Aside0 (surmiseref05_For.l0 kq a1 a2 x7_2 x8_2 l0_0 l0_1 l0_2 l0_3 = some r) ∧ Aside0 (kq ≤ kj3) ∧ Aside0 (w'.heap[gb504]? = some (.cells #[(.slice A0_0 l0_0.length c0_0), (.slice A0_1 l0_1.length c0_1), (.slice A0_2 l0_2.length c0_2), (.slice (some ad505) l0_3.length c0_3)] 26 (0, 0))) ∧ Aside0 (Below w.heap.size w w'))
      case atStart => exact ⟨(((((rd_T38 l0_3 a1).f2).length : Int) == 0)), (0), rq, rq, H', ⟨Nat.le_refl _⟩, ⟨kB BK504⟩, ⟨bs⟩⟩
      case round =>
       clear H'
       try clear c1
       try clear p2
       try clear c5
       try clear p5
       try clear q5
       try clear hx5
       try clear c6
       try clear c6b0
       try clear c7
       try clear c7b0
       try clear c9
       try clear c9b0
       try clear c12
       try clear c13
       try clear c13b0
       try clear c14
       try clear c14b0
       try clear hcz10_0
       try clear hcz10_1
       try clear hcz10_2
       try clear hcz10_3
       try clear hcz11_0
       try clear hcz11_1
       try clear hcz11_2
       try clear hcz11_3
       try clear hcz15_0
       try clear hcz15_1
       try clear hcz15_2
       try clear hcz15_3
       try clear hcz8_0
       try clear hcz8_1
       try clear hcz8_2
       try clear hcz8_3
       try clear hfz10_0
       try clear hfz10_1
       try clear hfz10_2
       try clear hfz10_3
       try clear hfz11_0
       try clear hfz11_1
       try clear hfz11_2
       try clear hfz11_3
       try clear hfz15_0
       try clear hfz15_1
       try clear hfz15_2
       try clear hfz15_3
       try clear hfz8_0
       try clear hfz8_1
       try clear hfz8_2
       try clear hfz8_3
       try clear hx505_0
       try clear hx505_1
       try clear hx505_2
       try clear hx505_3
       try clear hx505_4
       try clear p2
       try clear p505
       try clear q505
       obtain ⟨x7_2, x8_2, rfl, rfl, HA, HK2, BK504, HB⟩ := hrel
       cases gk with
       | zero => exact absurd HA.out (by simp [surmiseref05_For.l0])
       | succ k2 =>
        have H := HA.out
        clear HA
        simp only [surmiseref05_For.l0] at H
        by_cases c16 : 0 ≤ a1
        ·
         rw [if_pos c16] at H
         have c16b0 : decide (0 ≤ a1) = true := decide_eq_true c16
         clear c16
         by_cases c17 : a1 < (l0_3.length : Int)
         ·
          rw [if_pos c17] at H
          have c17b0 : decide (a1 < (l0_3.length : Int)) = true := decide_eq_true c17
          clear c17
          by_cases c18 : x8_2 < (((rd_T38 l0_3 a1).f2).length : Int)
          ·
           rw [if_pos c18] at H
           have c18b0 : decide (x8_2 < (((rd_T38 l0_3 a1).f2).length : Int)) = true := decide_eq_true c18
           clear c18
           by_cases c19 : x7_2 = true
           ·
            subst c19
            have H1 : (surmiseref05_For.l0 k2 a1 a2 true (wrap64 (x8_2 + 1)) l0_0 l0_1 l0_2 l0_3) = some r := by rw [if_pos rfl] at H; exact H
            clear H
            have H := H1
            clear H1
            have H' := Am H
            clear H
            have hcz20_0 := cz0 BK504.out
            have hcz20_1 := cz1 BK504.out
            have hcz20_2 := cz2 BK504.out
            have hcz20_3 := cz3 BK504.out
            have hfz20_0 := fz BK504 0
            have hfz20_1 := fz BK504 1
            have hfz20_2 := fz BK504 2
            have hfz20_3 := fz BK504 3
            have p506 : 0 ≤ (a1 : Int) := of_decide_eq_true az
            have q506 : a1 < (l0_3.length : Int) := of_decide_eq_true az
            obtain ⟨ad506, A506_2, c506_2, A506_3, c506_3, A506_4, c506_4, e506, hx506_0, hx506_1, hx506_2, hx506_3, hx506_4, hl506_2, hi506_2, hl506_3, hi506_3, hl506_4, hi506_4⟩ := at_T38 HR0_3.out a1 p506 q506
            obtain rfl : ad505 = ad506 := (by injection e506)
            replace hx506_0 := hX HB hx506_0
            replace hx506_1 := hX HB hx506_1
            replace hx506_2 := hX HB hx506_2
            replace hx506_3 := hX HB hx506_3
            replace hx506_4 := hX HB hx506_4
            have HR506_2 := Am hi506_2
            have HC506_2 := Am hl506_2
            clear hi506_2 hl506_2
            have HR506_3 := Am hi506_3
            have HC506_3 := Am hl506_3
            clear hi506_3 hl506_3
            have HR506_4 := Am hi506_4
            have HC506_4 := Am hl506_4
            clear hi506_4 hl506_4
            replace p506 := eq_true p506
            replace q506 := eq_true q506
            go_wp2
            go_roundg k2
            case measure => have := HJ3.out; have := HK2.out; omega
            case rel => exact ⟨(true), (wrap64 (x8_2 + 1)), rq, rq, H', ⟨by have := HJ3.out; have := HK2.out; omega⟩, ⟨kB BK504⟩, ⟨bs⟩⟩
           ·
            replace c19 := Bool.eq_false_iff.mpr c19
            subst c19
            have H1 : (if 0 ≤ x8_2 then (surmiseref05_For.l0 k2 a1 a2 ((rd ((rd_T38 l0_3 a1).f2) x8_2) == a2) (wrap64 (x8_2 + 1)) l0_0 l0_1 l0_2 l0_3) else (none)) = some r := by rw [if_neg (show ¬ (false = true) by decide)] at H; exact H
            clear H
            have H := H1
            clear H1
            by_cases c21 : 0 ≤ x8_2
            ·
             rw [if_pos c21] at H
             have c21b0 : decide (0 ≤ x8_2) = true := decide_eq_true c21
             clear c21
             have H' := Am H
             clear H
             have hcz22_0 := cz0 BK504.out
             have hcz22_1 := cz1 BK504.out
             have hcz22_2 := cz2 BK504.out
             have hcz22_3 := cz3 BK504.out
             have hfz22_0 := fz BK504 0
             have hfz22_1 := fz BK504 1
             have hfz22_2 := fz BK504 2
             have hfz22_3 := fz BK504 3
             have p506 : 0 ≤ (a1 : Int) := of_decide_eq_true az
             have q506 : a1 < (l0_3.length : Int) := of_decide_eq_true az
             obtain ⟨ad506, A506_2, c506_2, A506_3, c506_3, A506_4, c506_4, e506, hx506_0, hx506_1, hx506_2, hx506_3, hx506_4, hl506_2, hi506_2, hl506_3, hi506_3, hl506_4, hi506_4⟩ := at_T38 HR0_3.out a1 p506 q506
             obtain rfl : ad505 = ad506 := (by injection e506)
             replace hx506_0 := hX HB hx506_0
             replace hx506_1 := hX HB hx506_1
             replace hx506_2 := hX HB hx506_2
             replace hx506_3 := hX HB hx506_3
             replace hx506_4 := hX HB hx506_4
             have HR506_2 := Am hi506_2
             have HC506_2 := Am hl506_2
             clear hi506_2 hl506_2
             have HR506_3 := Am hi506_3
             have HC506_3 := Am hl506_3
             clear hi506_3 hl506_3
             have HR506_4 := Am hi506_4
             have HC506_4 := Am hl506_4
             clear hi506_4 hl506_4
             replace p506 := eq_true p506
             replace q506 := eq_true q506
             have p507 : 0 ≤ (a1 : Int) := of_decide_eq_true az
             have q507 : a1 < (l0_3.length : Int) := of_decide_eq_true az
             obtain ⟨ad507, A507_2, c507_2, A507_3, c507_3, A507_4, c507_4, e507, hx507_0, hx507_1, hx507_2, hx507_3, hx507_4, hl507_2, hi507_2, hl507_3, hi507_3, hl507_4, hi507_4⟩ := at_T38 HR0_3.out a1 p507 q507
             obtain rfl : ad505 = ad507 := (by injection e507)
             replace hx507_0 := hX HB hx507_0
             replace hx507_1 := hX HB hx507_1
             replace hx507_2 := hX HB hx507_2
             replace hx507_3 := hX HB hx507_3
             replace hx507_4 := hX HB hx507_4
             have HR507_2 := Am hi507_2
             have HC507_2 := Am hl507_2
             clear hi507_2 hl507_2
             have HR507_3 := Am hi507_3
             have HC507_3 := Am hl507_3
             clear hi507_3 hl507_3
             have HR507_4 := Am hi507_4
             have HC507_4 := Am hl507_4
             clear hi507_4 hl507_4
             replace p507 := eq_true p507
             replace q507 := eq_true q507
             have ea_ := Option.some.inj (hx506_2.symm.trans hx507_2)
             injection ea_ with ea_ en_ ec_
             subst ea_
             subst ec_
             clear en_
             have ea_ := Option.some.inj (hx506_3.symm.trans hx507_3)
             injection ea_ with ea_ en_ ec_
             subst ea_
             subst ec_
             clear en_
             have ea_ := Option.some.inj (hx506_4.symm.trans hx507_4)
             injection ea_ with ea_ en_ ec_
             subst ea_
             subst ec_
             clear en_
             have p508 : 0 ≤ (x8_2 : Int) := of_decide_eq_true az
             have q508 : x8_2 < (((rd_T38 l0_3 a1).f2).length : Int) := of_decide_eq_true az
             obtain ⟨ad508, e508, hx508_0⟩ := Kd.at_int HR507_2.out x8_2 p508 q508
             cases e508
             replace hx508_0 := hX HB hx508_0
             replace p508 := eq_true p508
             replace q508 := eq_true q508
             go_wp2
             go_roundg k2
             case measure => have := HJ3.out; have := HK2.out; omega
             case rel => exact ⟨(((rd ((rd_T38 l0_3 a1).f2) x8_2) == a2)), (wrap64 (x8_2 + 1)), rq, rq, H', ⟨by have := HJ3.out; have := HK2.out; omega⟩, ⟨kB BK504⟩, ⟨bs⟩⟩
            ·
             rw [if_neg c21] at H
             exact absurd H (by simp)
          ·
           rw [if_neg c18] at H
           have c18b0 : decide (x8_2 < (((rd_T38 l0_3 a1).f2).length : Int)) = false := decide_eq_false c18
           clear c18
           obtain rfl := Option.some.inj H
           have hcz23_0 := cz0 BK504.out
           have hcz23_1 := cz1 BK504.out
           have hcz23_2 := cz2 BK504.out
           have hcz23_3 := cz3 BK504.out
           have hfz23_0 := fz BK504 0
           have hfz23_1 := fz BK504 1
           have hfz23_2 := fz BK504 2
           have hfz23_3 := fz BK504 3
           have p506 : 0 ≤ (a1 : Int) := of_decide_eq_true az
           have q506 : a1 < (l0_3.length : Int) := of_decide_eq_true az
           obtain ⟨ad506, A506_2, c506_2, A506_3, c506_3, A506_4, c506_4, e506, hx506_0, hx506_1, hx506_2, hx506_3, hx506_4, hl506_2, hi506_2, hl506_3, hi506_3, hl506_4, hi506_4⟩ := at_T38 HR0_3.out a1 p506 q506
           obtain rfl : ad505 = ad506 := (by injection e506)
           replace hx506_0 := hX HB hx506_0
           replace hx506_1 := hX HB hx506_1
           replace hx506_2 := hX HB hx506_2
           replace hx506_3 := hX HB hx506_3
           replace hx506_4 := hX HB hx506_4
           have HR506_2 := Am hi506_2
           have HC506_2 := Am hl506_2
           clear hi506_2 hl506_2
           have HR506_3 := Am hi506_3
           have HC506_3 := Am hl506_3
           clear hi506_3 hl506_3
           have HR506_4 := Am hi506_4
           have HC506_4 := Am hl506_4
           clear hi506_4 hl506_4
           replace p506 := eq_true p506
           replace q506 := eq_true q506
           go_wp2
           go_ret
           exact ⟨xq, bs⟩
         ·
          rw [if_neg c17] at H
          exact absurd H (by simp)
        ·
         rw [if_neg c16] at H
         exact absurd H (by simp)
     ·
      rw [if_neg c14] at H
      exact absurd H (by simp)
    ·
     rw [if_neg c13] at H
     exact absurd H (by simp)

end Go.Proofs.Ytdfhbmallnegfaa.PA
