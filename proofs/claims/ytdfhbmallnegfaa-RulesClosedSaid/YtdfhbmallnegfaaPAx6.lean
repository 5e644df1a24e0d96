-- Written by a program (wip/tools/gprint.py: a patched copy of the kit's print) and by hand, for this claim
import Derived.Test.YtdfhbmallnegfaaPAx0
import Derived.Test.YtdfhbmallnegfaaPAx5
namespace Go.Proofs.Ytdfhbmallnegfaa.PA
open Go.RowKit Go.Proofs.YtdfhbmallnegfaaW.PrintWords Go.Proofs.YtdfhbmallnegfaaW.PrintLast Go.Proofs.YtdfhbmallnegfaaW.PrintMore
attribute [local go_sem] max2_int min2_int max_two min_two max_three min_three max_four min_four   -- for this text's walks alone
set_option linter.unusedVariables false
set_option linter.unusedSimpArgs false

/-! ### rules_sets: function 60 -/
mutual
def rules_sets.l0 : Nat → List (S68) → Int → Int → List (S68) → Int → Int → Option (Int)
 | 0, _, _, _, _, _, _ => none
 | k + 1, x0, x1, x2, x13, x14, x15 => if x15 < x14 then (if 0 ≤ x15 then (if x15 < (x13.length : Int) then (if ((rd_T68 x13 x15).f0) < 0 then (rules_sets.j1 k x0 x1 x2 x15 x13 x14 x15 true ((rd_T68 x13 x15).f0) ((rd_T68 x13 x15).f1)) else (rules_sets.j1 k x0 x1 x2 x15 x13 x14 x15 (decide (((rd_T68 x13 x15).f0) ≥ x1)) ((rd_T68 x13 x15).f0) ((rd_T68 x13 x15).f1))) else (none)) else (none)) else (some 0)
def rules_sets.j1 : Nat → List (S68) → Int → Int → Int → List (S68) → Int → Int → Bool → Int → List (S71) → Option (Int)
 | 0, _, _, _, _, _, _, _, _, _, _ => none
 | k + 1, x0, x1, x2, x7, x13, x14, x15, x28, x166000, x166001 => if x28 = true then (some 3) else (if 0 ≤ x7 then (if x7 ≤ (x0.length : Int) then ((some (x0.take (x7 : Int).toNat : List (S68))).bind fun y166 => (rules_sets.l1 k x0 x1 x2 x13 x14 x15 y166 (y166.length : Int) 0 x166000 x166001)) else (none)) else (none))
def rules_sets.l1 : Nat → List (S68) → Int → Int → List (S68) → Int → Int → List (S68) → Int → Int → Int → List (S71) → Option (Int)
 | 0, _, _, _, _, _, _, _, _, _, _, _ => none
 | k + 1, x0, x1, x2, x13, x14, x15, x31, x32, x33, x166000, x166001 => if x33 < x32 then (if 0 ≤ x33 then (if x33 < (x31.length : Int) then (if ((rd_T68 x31 x33).f0) = x166000 then (some 9) else (rules_sets.l1 k x0 x1 x2 x13 x14 x15 x31 x32 (wrap64 (x33 + 1)) x166000 x166001)) else (none)) else (none)) else ((expr_Check.f k x166001 x1 x2).bind fun bt172 => (if bt172.2 = 0 then (rules_sets.l0 k x0 x1 x2 x13 x14 (wrap64 (x15 + 1))) else (some bt172.2)))
end
def rules_sets.f (k : Nat) (l0 : List (S68)) (a1 : Int) (a2 : Int) : Option (Int) := rules_sets.l0 k l0 a1 a2 l0 (l0.length : Int) 0
theorem rules_sets.mono_l : ∀ k, (∀ y0 y1 y2 y3 y4 y5, LeO (rules_sets.l0 k y0 y1 y2 y3 y4 y5) (rules_sets.l0 (k + 1) y0 y1 y2 y3 y4 y5)) ∧ (∀ y0 y1 y2 y3 y4 y5 y6 y7 y8 y9, LeO (rules_sets.j1 k y0 y1 y2 y3 y4 y5 y6 y7 y8 y9) (rules_sets.j1 (k + 1) y0 y1 y2 y3 y4 y5 y6 y7 y8 y9)) ∧ (∀ y0 y1 y2 y3 y4 y5 y6 y7 y8 y9 y10, LeO (rules_sets.l1 k y0 y1 y2 y3 y4 y5 y6 y7 y8 y9 y10) (rules_sets.l1 (k + 1) y0 y1 y2 y3 y4 y5 y6 y7 y8 y9 y10))
 | 0 => ⟨fun _ _ _ _ _ _ r h => by simp [rules_sets.l0] at h, fun _ _ _ _ _ _ _ _ _ _ r h => by simp [rules_sets.j1] at h, fun _ _ _ _ _ _ _ _ _ _ _ r h => by simp [rules_sets.l1] at h⟩
 | k + 1 => by
  obtain ⟨ih0, ih1, ih2⟩ := rules_sets.mono_l k
  refine ⟨?_, ?_, ?_⟩
  ·
   intro y0 y1 y2 y3 y4 y5
   unfold rules_sets.l0
   repeat' first
   | (with_reducible exact ih0 _ _ _ _ _ _)
   | (with_reducible exact ih1 _ _ _ _ _ _ _ _ _ _)
   | (with_reducible exact ih2 _ _ _ _ _ _ _ _ _ _ _)
   | (with_reducible exact expr_Check.mono _ _ _ _)
   | (with_reducible exact LeO.refl _)
   | (with_reducible exact LeO.none _)
   | (with_reducible refine LeO.ite ?_ ?_)
   | (with_reducible refine LeO.bind ?_ (fun _ => ?_))
   | exact ih0 _ _ _ _ _ _
   | exact ih1 _ _ _ _ _ _ _ _ _ _
   | exact ih2 _ _ _ _ _ _ _ _ _ _ _
   | exact expr_Check.mono _ _ _ _
   | exact LeO.none _
   | refine LeO.ite ?_ ?_
   | refine LeO.bind ?_ (fun _ => ?_)
  ·
   intro y0 y1 y2 y3 y4 y5 y6 y7 y8 y9
   unfold rules_sets.j1
   repeat' first
   | (with_reducible exact ih0 _ _ _ _ _ _)
   | (with_reducible exact ih1 _ _ _ _ _ _ _ _ _ _)
   | (with_reducible exact ih2 _ _ _ _ _ _ _ _ _ _ _)
   | (with_reducible exact expr_Check.mono _ _ _ _)
   | (with_reducible exact LeO.refl _)
   | (with_reducible exact LeO.none _)
   | (with_reducible refine LeO.ite ?_ ?_)
   | (with_reducible refine LeO.bind ?_ (fun _ => ?_))
   | exact ih0 _ _ _ _ _ _
   | exact ih1 _ _ _ _ _ _ _ _ _ _
   | exact ih2 _ _ _ _ _ _ _ _ _ _ _
   | exact expr_Check.mono _ _ _ _
   | exact LeO.none _
   | refine LeO.ite ?_ ?_
   | refine LeO.bind ?_ (fun _ => ?_)
  ·
   intro y0 y1 y2 y3 y4 y5 y6 y7 y8 y9 y10
   unfold rules_sets.l1
   repeat' first
   | (with_reducible exact ih0 _ _ _ _ _ _)
   | (with_reducible exact ih1 _ _ _ _ _ _ _ _ _ _)
   | (with_reducible exact ih2 _ _ _ _ _ _ _ _ _ _ _)
   | (with_reducible exact expr_Check.mono _ _ _ _)
   | (with_reducible exact LeO.refl _)
   | (with_reducible exact LeO.none _)
   | (with_reducible refine LeO.ite ?_ ?_)
   | (with_reducible refine LeO.bind ?_ (fun _ => ?_))
   | exact ih0 _ _ _ _ _ _
   | exact ih1 _ _ _ _ _ _ _ _ _ _
   | exact ih2 _ _ _ _ _ _ _ _ _ _ _
   | exact expr_Check.mono _ _ _ _
   | exact LeO.none _
   | refine LeO.ite ?_ ?_
   | refine LeO.bind ?_ (fun _ => ?_)
theorem rules_sets.mono : ∀ a0 a1 a2 k, LeO (rules_sets.f k a0 a1 a2) (rules_sets.f (k + 1) a0 a1 a2) := by
 intro a0 a1 a2 k
 obtain ⟨ih0, ih1, ih2⟩ := rules_sets.mono_l k
 unfold rules_sets.f
 repeat' first
   | (with_reducible exact ih0 _ _ _ _ _ _)
   | (with_reducible exact ih1 _ _ _ _ _ _ _ _ _ _)
   | (with_reducible exact ih2 _ _ _ _ _ _ _ _ _ _ _)
   | (with_reducible exact expr_Check.mono _ _ _ _)
   | (with_reducible exact LeO.refl _)
   | (with_reducible exact LeO.none _)
   | (with_reducible refine LeO.ite ?_ ?_)
   | (with_reducible refine LeO.bind ?_ (fun _ => ?_))
   | exact ih0 _ _ _ _ _ _
   | exact ih1 _ _ _ _ _ _ _ _ _ _
   | exact ih2 _ _ _ _ _ _ _ _ _ _ _
   | exact expr_Check.mono _ _ _ _
   | exact LeO.none _
   | refine LeO.ite ?_ ?_
   | refine LeO.bind ?_ (fun _ => ?_)
set_option maxHeartbeats 8000000 in
set_option maxRecDepth 100000 in
theorem rules_sets.calls (k : Nat) (A0 : Option Addr) (c0 : Nat) (l0 : List (S68)) (a1 : Int) (a2 : Int) (r : Int) (w : World) (hr0 : Kd.C k68 w A0 l0.length l0) (hc0 : l0.length ≤ c0) (h : rules_sets.f k l0 a1 a2 = some r) :
  Calls Try.prog 60 #[.slice A0 l0.length c0, .int .i64 a1, .int .i64 a2] w fun e w' => e = .returned (.int .i64 r) ∧ Below w.heap.size w w' := by
 have hu68 := Try.underlying68
 have HR0 := Am hr0
 have HC0 := Am hc0
 clear hr0 hc0
 have HB := Am (Below.refl w.heap.size w)
 have H : (rules_sets.l0 k l0 a1 a2 l0 (l0.length : Int) 0) = some r := h
 clear h
 have H' := Am H
 clear H
 go_enter Try.func60, Try.ntmps60
 go_wp2
 go_loopg [15] k (fun kq v15 w' => ∃ (x15_1 : Int), v15 = .int .i64 x15_1 ∧ Aside0 (rules_sets.l0 kq l0 a1 a2 l0 (l0.length : Int) x15_1 = some r) ∧ Aside0 (kq ≤ k) ∧ Aside0 (Below w.heap.size w w'))
 case atStart => exact ⟨(0), rq, H', ⟨Nat.le_refl _⟩, ⟨bl⟩⟩
 case round =>
  clear H'
  try clear p2
  obtain ⟨x15_1, rfl, HA, HK1, HB⟩ := hrel
  cases gk with
  | zero => exact absurd HA.out (by simp [rules_sets.l0])
  | succ k1 =>
   have H := HA.out
   clear HA
   simp only [rules_sets.l0] at H
   by_cases c4 : x15_1 < (l0.length : Int)
   ·
    rw [if_pos c4] at H
    have c4b0 : decide (x15_1 < (l0.length : Int)) = true := decide_eq_true c4
    clear c4
    by_cases c5 : 0 ≤ x15_1
    ·
     rw [if_pos c5] at H
     have c5b0 : decide (0 ≤ x15_1) = true := decide_eq_true c5
     clear c5
     by_cases c6 : x15_1 < (l0.length : Int)
     ·
      rw [if_pos c6] at H
      have c6b0 : decide (x15_1 < (l0.length : Int)) = true := decide_eq_true c6
      clear c6
      have HC7 := Am H
      clear H
      have p164 : 0 ≤ (x15_1 : Int) := of_decide_eq_true az
      have q164 : x15_1 < (l0.length : Int) := of_decide_eq_true az
      obtain ⟨ad164, A164_1, c164_1, e164, hx164_0, hx164_1, hl164_1, hi164_1⟩ := at_T68 HR0.out x15_1 p164 q164
      cases e164
      replace hx164_0 := hX HB hx164_0
      replace hx164_1 := hX HB hx164_1
      have HR164_1 := Am hi164_1
      have HC164_1 := Am hl164_1
      clear hi164_1 hl164_1
      replace p164 := eq_true p164
      replace q164 := eq_true q164
      go_upto_region 4 with (first | ((with_reducible refine gate_dst (N := 8) rfl ?_); refine bxe (N := 8) (cs := #[.int .i64 0, .slice none 0 0]) (t := 68) ?_; intro gb165 hg w8 hbox hb; have n0_ := Am (below_step (bl) hb); have n1_ := Am (hbox); have n2_ := Am ((gE hg : w.heap.size ≤ gb165)); have n3_ := Am ((gE hg : w.heap.size ≤ gb165)); clear HB; have HB := n0_; have BK165 := n1_; have GW165 := n2_; have GE165 := n3_; clear n0_ n1_ n2_ n3_; clear hb hbox hg; have hcz9_0 := cz0 BK165.out; have hcz9_1 := cz1 BK165.out; have hfz9_0 := fz BK165 0; have hfz9_1 := fz BK165 1))
      (try simp only [Act.put, List.setIfInBounds_toArray, List.set_cons_zero, List.set_cons_succ])
      go_cut [28] (fun v28 wc => ∃ (kq : Nat) (x28_6 : Bool), v28 = .bool x28_6 ∧ Aside0 (rules_sets.j1 kq l0 a1 a2 x15_1 l0 (l0.length : Int) x15_1 x28_6 ((rd_T68 l0 x15_1).f0) ((rd_T68 l0 x15_1).f1) = some r) ∧ Aside0 (kq ≤ k1) ∧ Aside0 (wc.heap[gb165]? = some (.cells #[.int .i64 ((rd_T68 l0 x15_1).f0), (.slice A164_1 ((rd_T68 l0 x15_1).f1).length c164_1)] 68 (0, 0))) ∧ Aside0 (Below w.heap.size w wc))
      case first =>
       have H := HC7.out
       clear HC7
       by_cases c10 : ((rd_T68 l0 x15_1).f0) < 0
       ·
        rw [if_pos c10] at H
        have c10b0 : decide (((rd_T68 l0 x15_1).f0) < 0) = true := decide_eq_true c10
        clear c10
        (first | rw [c10b0] | (simp only [i64_w, i32_w]; rw [c10b0]) | skip)
        have H' := Am H
        clear H
        have hcz11_0 := cz0 BK165.out
        have hcz11_1 := cz1 BK165.out
        have hfz11_0 := fz BK165 0
        have hfz11_1 := fz BK165 1
        go_wp2
        go_meet
        case rel => exact ⟨_, (true), rq, H', ⟨by have := HK1.out; first | omega | exact Nat.le_refl _⟩, ⟨by (with_reducible repeat (first | refine blk_drewN ?_ _ | refine blk_drew ?_ | refine blk_alloc ?_ _)); refine blk_put (cs := #[.int .i64 ((rd_T68 l0 x15_1).f0), .slice none 0 0]) ?_ 1 _ rfl; (with_reducible repeat (first | refine blk_drewN ?_ _ | refine blk_drew ?_ | refine blk_alloc ?_ _)); refine blk_put (cs := #[.int .i64 0, .slice none 0 0]) ?_ 0 _ rfl; (with_reducible repeat (first | refine blk_drewN ?_ _ | refine blk_drew ?_ | refine blk_alloc ?_ _)); exact BK165.out⟩, ⟨bs⟩⟩
       ·
        rw [if_neg c10] at H
        have c10b0 : decide (((rd_T68 l0 x15_1).f0) < 0) = false := decide_eq_false c10
        clear c10
        (first | rw [c10b0] | (simp only [i64_w, i32_w]; rw [c10b0]) | skip)
        have H' := Am H
        clear H
        have hcz12_0 := cz0 BK165.out
        have hcz12_1 := cz1 BK165.out
        have hfz12_0 := fz BK165 0
        have hfz12_1 := fz BK165 1
        go_wp2
        go_meet
        case rel => exact ⟨_, (decide (((rd_T68 l0 x15_1).f0) ≥ a1)), rq, H', ⟨by have := HK1.out; first | omega | exact Nat.le_refl _⟩, ⟨by (with_reducible repeat (first | refine blk_drewN ?_ _ | refine blk_drew ?_ | refine blk_alloc ?_ _)); refine blk_put (cs := #[.int .i64 ((rd_T68 l0 x15_1).f0), .slice none 0 0]) ?_ 1 _ rfl; (with_reducible repeat (first | refine blk_drewN ?_ _ | refine blk_drew ?_ | refine blk_alloc ?_ _)); refine blk_put (cs := #[.int .i64 0, .slice none 0 0]) ?_ 0 _ rfl; (with_reducible repeat (first | refine blk_drewN ?_ _ | refine blk_drew ?_ | refine blk_alloc ?_ _)); exact BK165.out⟩, ⟨bs⟩⟩
      case rest =>
       clear HC7
       try clear c1
       try clear p1
       try clear q1
       try clear hx1
       try clear p2
       try clear c4
       try clear c4b0
       try clear c5
       try clear c5b0
       try clear c6
       try clear c6b0
       try clear c10
       try clear c10b0
       try clear hcz11_0
       try clear hcz11_1
       try clear hcz12_0
       try clear hcz12_1
       try clear hcz9_0
       try clear hcz9_1
       try clear hfz11_0
       try clear hfz11_1
       try clear hfz12_0
       try clear hfz12_1
       try clear hfz9_0
       try clear hfz9_1
       try clear hx164_0
       try clear hx164_1
       try clear p164
       try clear p2
       try clear q164
       obtain ⟨kq, x28_6, rfl, HA, HJ6, BK165, HB⟩ := hcut
       cases kq with
       | zero => exact absurd HA.out (by simp [rules_sets.j1])
       | succ kj6 =>
        have H := HA.out
        clear HA
        simp only [rules_sets.j1] at H
        by_cases c13 : x28_6 = true
        ·
         subst c13
         have H1 : (some 3) = some r := by rw [if_pos rfl] at H; exact H
         clear H
         have H := H1
         clear H1
         obtain rfl := Option.some.inj H
         go_wp2
         go_ret
         exact ⟨xq, bs⟩
        ·
         replace c13 := Bool.eq_false_iff.mpr c13
         subst c13
         have H1 : (if 0 ≤ x15_1 then (if x15_1 ≤ (l0.length : Int) then ((some (l0.take (x15_1 : Int).toNat : List (S68))).bind fun y166 => (rules_sets.l1 kj6 l0 a1 a2 l0 (l0.length : Int) x15_1 y166 (y166.length : Int) 0 ((rd_T68 l0 x15_1).f0) ((rd_T68 l0 x15_1).f1))) else (none)) else (none)) = some r := by rw [if_neg (show ¬ (false = true) by decide)] at H; exact H
         clear H
         have H := H1
         clear H1
         by_cases c14 : 0 ≤ x15_1
         ·
          rw [if_pos c14] at H
          have c14b0 := eq_true c14
          have c14b1 : decide (0 ≤ x15_1) = true := decide_eq_true c14
          clear c14
          by_cases c15 : x15_1 ≤ (l0.length : Int)
          ·
           rw [if_pos c15] at H
           have c15b0 := eq_true c15
           have c15b1 : decide (x15_1 ≤ (l0.length : Int)) = true := decide_eq_true c15
           clear c15
           obtain ⟨y166, hy166⟩ : ∃ y_ : List (S68), y_ = (l0.take (x15_1 : Int).toNat) := ⟨_, rfl⟩
           replace H : (rules_sets.l1 kj6 l0 a1 a2 l0 (l0.length : Int) x15_1 y166 (y166.length : Int) 0 ((rd_T68 l0 x15_1).f0) ((rd_T68 l0 x15_1).f1)) = some r := by first | (rw [hy166]; with_reducible exact H) | (have H2_ := (Option.bind_some _ _).symm.trans H; rw [hy166]; with_reducible exact H2_) | (have H2_ := (Option.bind_some _ _).symm.trans H; with_reducible exact H2_) | with_reducible exact H | (rw [hy166]; exact H) | exact H
           have Ny166 := Am hy166
           clear hy166
           have H' := Am H
           clear H
           have q16 : (x15_1 : Int) ≤ ((l0.length : Int) : Int) := of_decide_eq_true az
           obtain ⟨i016, hi016, _, hsz16, _⟩ := info_parts info68
           have hroom16 : l0.length ≤ c0 := HC0.out
           have hC16 : Kd.C k68 _ (some ad164) l0.length l0 := HR0.out
           have hcut16 := cut_to (P := Try.prog) 58 68 .i64 Try.underlying58 hi016 (some ad164) l0.length c0 x15_1 (of_decide_eq_true az) q16 hroom16
           have hr16 := Kd.C_take (m := (x15_1 : Int).toNat) hC16 (by omega)
           have hy16 : y166.length = (x15_1 : Int).toNat := (by rw [Ny166.out, List.length_take]; omega)
           rw [← Ny166.out] at hr16
           rw [← hy16] at hcut16
           have HR169 := Am hr16
           have HC169 := Am (show y166.length ≤ c0 from by omega)
           clear hr16 hC16 hroom16 hi016 hsz16
           have KY16 := Am hy16
           clear hy16
           replace q16 := eq_true q16
           go_wp2
           go_loopg [33] kj6 (fun kq v33 w' => ∃ (x33_3 : Int), v33 = .int .i64 x33_3 ∧ Aside0 (rules_sets.l1 kq l0 a1 a2 l0 (l0.length : Int) x15_1 y166 (y166.length : Int) x33_3 ((rd_T68 l0 x15_1).f0) ((rd_T68 l0 x15_1).f1) = some r) ∧ Aside0 (kq ≤ kj6) ∧ Aside0 (w'.heap[gb165]? = some (.cells #[.int .i64 ((rd_T68 l0 x15_1).f0), (.slice A164_1 ((rd_T68 l0 x15_1).f1).length c164_1)] 68 (0, 0))) ∧ Aside0 (Below w.heap.size w w'))
           case atStart => exact ⟨(0), rq, H', ⟨Nat.le_refl _⟩, ⟨kB BK165⟩, ⟨bs⟩⟩
           case round =>
            clear H'
            try clear c1
            try clear p1
            try clear q1
            try clear hx1
            try clear p2
            try clear c4
            try clear c4b0
            try clear c5
            try clear c5b0
            try clear c6
            try clear c6b0
            try clear c10
            try clear c10b0
            try clear c13
            try clear c14
            try clear c14b0
            try clear c14b1
            try clear c15
            try clear c15b0
            try clear c15b1
            try clear c16
            try clear p16
            try clear q16
            try clear hx16
            try clear hcz11_0
            try clear hcz11_1
            try clear hcz12_0
            try clear hcz12_1
            try clear hcz9_0
            try clear hcz9_1
            try clear hfz11_0
            try clear hfz11_1
            try clear hfz12_0
            try clear hfz12_1
            try clear hfz9_0
            try clear hfz9_1
            try clear hx164_0
            try clear hx164_1
            try clear p1
            try clear p164
            try clear p2
            try clear q1
            try clear q16
            try clear q164
            obtain ⟨x33_3, rfl, HA, HK3, BK165, HB⟩ := hrel
            cases gk with
            | zero => exact absurd HA.out (by simp [rules_sets.l1])
            | succ k3 =>
             have H := HA.out
             clear HA
             simp only [rules_sets.l1] at H
             by_cases c17 : x33_3 < (y166.length : Int)
             ·
              rw [if_pos c17] at H
              have c17b0 : decide (x33_3 < (y166.length : Int)) = true := decide_eq_true c17
              clear c17
              by_cases c18 : 0 ≤ x33_3
              ·
               rw [if_pos c18] at H
               have c18b0 : decide (0 ≤ x33_3) = true := decide_eq_true c18
               clear c18
               by_cases c19 : x33_3 < (y166.length : Int)
               ·
                rw [if_pos c19] at H
                have c19b0 : decide (x33_3 < (y166.length : Int)) = true := decide_eq_true c19
                clear c19
                by_cases c20 : ((rd_T68 y166 x33_3).f0) = ((rd_T68 l0 x15_1).f0)
                ·
                 rw [if_pos c20] at H
                 have c20b0 : (((rd_T68 y166 x33_3).f0) == ((rd_T68 l0 x15_1).f0)) = true := beq_iff_eq.mpr c20
                 have c20b1 : (((rd_T68 y166 x33_3).f0) != ((rd_T68 l0 x15_1).f0)) = false := bne_eq_false_iff_eq.mpr c20
                 clear c20
                 obtain rfl := Option.some.inj H
                 have p170 : 0 ≤ (x33_3 : Int) := of_decide_eq_true az
                 have q170 : x33_3 < (y166.length : Int) := of_decide_eq_true az
                 obtain ⟨ad170, A170_1, c170_1, e170, hx170_0, hx170_1, hl170_1, hi170_1⟩ := at_T68 HR169.out x33_3 p170 q170
                 obtain rfl : ad164 = ad170 := (by injection e170)
                 replace hx170_0 := hX HB hx170_0
                 replace hx170_1 := hX HB hx170_1
                 have HR170_1 := Am hi170_1
                 have HC170_1 := Am hl170_1
                 clear hi170_1 hl170_1
                 replace p170 := eq_true p170
                 replace q170 := eq_true q170
                 go_wp2_with (first | ((with_reducible refine gate_dst (N := 10) rfl ?_); refine bxe (N := 10) (cs := #[.int .i64 0, .slice none 0 0]) (t := 68) ?_; intro gb171 hg w21 hbox hb; have n0_ := Am (blk_below (kB BK165) hb); have n1_ := Am (below_step (bs) hb); have n2_ := Am (hbox); have n3_ := Am ((gE hg : w.heap.size ≤ gb171)); have n4_ := Am ((gE hg : w.heap.size ≤ gb171)); have n5_ := Am (nL hg BK165); have n6_ := Am (nG hg BK165); clear BK165; clear HB; have BK165 := n0_; have HB := n1_; have BK171 := n2_; have GW171 := n3_; have GE171 := n4_; have NB165_171 := n5_; have NB171_165 := n6_; clear n0_ n1_ n2_ n3_ n4_ n5_ n6_; clear hb hbox hg; have hnb22 := NB171_165.out; have hnc22 := NB165_171.out; have hcz23_0 := cz0 BK171.out; have hcz23_1 := cz1 BK171.out; have hfz23_0 := fz BK171 0; have hfz23_1 := fz BK171 1; have hcz24_0 := cz0 BK165.out; have hcz24_1 := cz1 BK165.out; have hfz24_0 := fz BK165 0; have hfz24_1 := fz BK165 1))
                 go_ret
                 exact ⟨xq, bs⟩
                ·
                 rw [if_neg c20] at H
                 have c20b0 : (((rd_T68 y166 x33_3).f0) == ((rd_T68 l0 x15_1).f0)) = false := beq_eq_false_iff_ne.mpr c20
                 have c20b1 : (((rd_T68 y166 x33_3).f0) != ((rd_T68 l0 x15_1).f0)) = true := bne_iff_ne.mpr c20
                 have H' := Am H
                 clear H
                 have p170 : 0 ≤ (x33_3 : Int) := of_decide_eq_true az
                 have q170 : x33_3 < (y166.length : Int) := of_decide_eq_true az
                 obtain ⟨ad170, A170_1, c170_1, e170, hx170_0, hx170_1, hl170_1, hi170_1⟩ := at_T68 HR169.out x33_3 p170 q170
                 obtain rfl : ad164 = ad170 := (by injection e170)
                 replace hx170_0 := hX HB hx170_0
                 replace hx170_1 := hX HB hx170_1
                 have HR170_1 := Am hi170_1
                 have HC170_1 := Am hl170_1
                 clear hi170_1 hl170_1
                 replace p170 := eq_true p170
                 replace q170 := eq_true q170
                 go_wp2_with (first | ((with_reducible refine gate_dst (N := 10) rfl ?_); refine bxe (N := 10) (cs := #[.int .i64 0, .slice none 0 0]) (t := 68) ?_; intro gb171 hg w25 hbox hb; have n0_ := Am (blk_below (kB BK165) hb); have n1_ := Am (below_step (bs) hb); have n2_ := Am (hbox); have n3_ := Am ((gE hg : w.heap.size ≤ gb171)); have n4_ := Am ((gE hg : w.heap.size ≤ gb171)); have n5_ := Am (nL hg BK165); have n6_ := Am (nG hg BK165); clear BK165; clear HB; have BK165 := n0_; have HB := n1_; have BK171 := n2_; have GW171 := n3_; have GE171 := n4_; have NB165_171 := n5_; have NB171_165 := n6_; clear n0_ n1_ n2_ n3_ n4_ n5_ n6_; clear hb hbox hg; have hnb26 := NB171_165.out; have hnc26 := NB165_171.out; have hcz27_0 := cz0 BK171.out; have hcz27_1 := cz1 BK171.out; have hfz27_0 := fz BK171 0; have hfz27_1 := fz BK171 1; have hcz28_0 := cz0 BK165.out; have hcz28_1 := cz1 BK165.out; have hfz28_0 := fz BK165 0; have hfz28_1 := fz BK165 1))
                 go_roundg k3
                 case measure => have := HK1.out; have := HJ6.out; have := HK3.out; omega
                 case rel => exact ⟨(wrap64 (x33_3 + 1)), rq, H', ⟨by have := HK1.out; have := HJ6.out; have := HK3.out; omega⟩, ⟨kZ BK165⟩, ⟨bs⟩⟩
               ·
                rw [if_neg c19] at H
                exact absurd H (by simp)
              ·
               rw [if_neg c18] at H
               exact absurd H (by simp)
             ·
              rw [if_neg c17] at H
              have c17b0 : decide (x33_3 < (y166.length : Int)) = false := decide_eq_false c17
              clear c17
              obtain ⟨⟨t172, t173⟩, A290, H⟩ := Option.bind_eq_some_iff.mp H
              replace H : (if t173 = 0 then (rules_sets.l0 k3 l0 a1 a2 l0 (l0.length : Int) (wrap64 (x15_1 + 1))) else (some t173)) = some r := H
              have A29 := Am A290
              clear A290
              by_cases c30 : t173 = 0
              ·
               rw [if_pos c30] at H
               have c30b0 : (t173 == 0) = true := beq_iff_eq.mpr c30
               have c30b1 : (t173 != 0) = false := bne_eq_false_iff_eq.mpr c30
               clear c30
               have H' := Am H
               clear H
               have hcz31_0 := cz0 BK165.out
               have hcz31_1 := cz1 BK165.out
               have hfz31_0 := fz BK165 0
               have hfz31_1 := fz BK165 1
               go_wp2_with (first | ((with_reducible refine gate_callee (f := 59) rfl ?_); refine goesL_ (some 48) rfl rfl Try.func59 (by kernel_rfl) rfl #[.slice A164_1 ((rd_T68 l0 x15_1).f1).length c164_1, .int .i64 a1, .int .i64 a2] rfl aq ?_; (with_reducible refine (expr_Check.calls k3 _ _ ((rd_T68 l0 x15_1).f1) a1 a2 t172 t173 _ ?side1 ?side2 A29.out).mono ?_); (case side1 => exact kC HR164_1); (case side2 => exact HC164_1.out); rintro e w32 ⟨rfl, hb⟩; refine ⟨_, rfl, ?_⟩; have n0_ := Am (blk_below (kB BK165) hb); have n1_ := Am (below_step (bs) hb); clear BK165; clear HB; have BK165 := n0_; have HB := n1_; clear n0_ n1_; (try clear hb); (try clear hb2); (try clear hk); (try clear hi)))
               go_roundg k3
               case measure => have := HK1.out; have := HJ6.out; have := HK3.out; omega
               case rel => exact ⟨(wrap64 (x15_1 + 1)), rq, H', ⟨by have := HK1.out; have := HJ6.out; have := HK3.out; omega⟩, ⟨bs⟩⟩
              ·
               rw [if_neg c30] at H
               have c30b0 : (t173 == 0) = false := beq_eq_false_iff_ne.mpr c30
               have c30b1 : (t173 != 0) = true := bne_iff_ne.mpr c30
               obtain rfl := Option.some.inj H
               have hcz33_0 := cz0 BK165.out
               have hcz33_1 := cz1 BK165.out
               have hfz33_0 := fz BK165 0
               have hfz33_1 := fz BK165 1
               go_wp2_with (first | ((with_reducible refine gate_callee (f := 59) rfl ?_); refine goesL_ (some 48) rfl rfl Try.func59 (by kernel_rfl) rfl #[.slice A164_1 ((rd_T68 l0 x15_1).f1).length c164_1, .int .i64 a1, .int .i64 a2] rfl aq ?_; (with_reducible refine (expr_Check.calls k3 _ _ ((rd_T68 l0 x15_1).f1) a1 a2 t172 t173 _ ?side1 ?side2 A29.out).mono ?_); (case side1 => exact kC HR164_1); (case side2 => exact HC164_1.out); rintro e w34 ⟨rfl, hb⟩; refine ⟨_, rfl, ?_⟩; have n0_ := Am (blk_below (kB BK165) hb); have n1_ := Am (below_step (bs) hb); clear BK165; clear HB; have BK165 := n0_; have HB := n1_; clear n0_ n1_; (try clear hb); (try clear hb2); (try clear hk); (try clear hi)))
               go_ret
               exact ⟨xq, bs⟩
          ·
           rw [if_neg c15] at H
           exact absurd H (by simp)
         ·
          rw [if_neg c14] at H
          exact absurd H (by simp)
     ·
      rw [if_neg c6] at H
      exact absurd H (by simp)
    ·
     rw [if_neg c5] at H
     exact absurd H (by simp)
   ·
    rw [if_neg c4] at H
    have c4b0 : decide (x15_1 < (l0.length : Int)) = false := decide_eq_false c4
    clear c4
    obtain rfl := Option.some.inj H
    go_wp2
    go_ret
    exact ⟨xq, bl⟩

/-! ### rules_steps: function 50 -/
def rules_steps.l0 : Nat → Int → List (S60) → Int → Int → List ByteArray → List ByteArray → List Int → List (S38) → Option (Int × Int)
 | 0, _, _, _, _, _, _, _, _ => none
 | k + 1, x2, x19, x20, x21, x175000, x175001, x175002, x175003 => if x21 < x20 then (if 0 ≤ x21 then (if x21 < (x19.length : Int) then (if ((rd_T60 x19 x21).f1) ≥ (x175000.length : Int) then (some (x21, 3)) else ((rules_sets.f k ((rd_T60 x19 x21).f0) (x175001.length : Int) x2).bind fun t177 => (if t177 = 0 then (rules_steps.l0 k x2 x19 x20 (wrap64 (x21 + 1)) x175000 x175001 x175002 x175003) else (some (x21, t177))))) else (none)) else (none)) else (some (0, 0))
def rules_steps.f (k : Nat) (l0 : List (S60)) (l1_0 : List ByteArray) (l1_1 : List ByteArray) (l1_2 : List Int) (l1_3 : List (S38)) (a2 : Int) : Option (Int × Int) := if (l0.length : Int) = 0 then (some (0, 2)) else (if (l0.length : Int) > 3 then (some (0, 4)) else (rules_steps.l0 k a2 l0 (l0.length : Int) 0 l1_0 l1_1 l1_2 l1_3))
theorem rules_steps.mono_l : ∀ k, (∀ y0 y1 y2 y3 y4 y5 y6 y7, LeO (rules_steps.l0 k y0 y1 y2 y3 y4 y5 y6 y7) (rules_steps.l0 (k + 1) y0 y1 y2 y3 y4 y5 y6 y7))
 | 0 => fun _ _ _ _ _ _ _ _ r h => by simp [rules_steps.l0] at h
 | k + 1 => by
  have ih0 := rules_steps.mono_l k
  ·
   intro y0 y1 y2 y3 y4 y5 y6 y7
   unfold rules_steps.l0
   repeat' first
   | (with_reducible exact ih0 _ _ _ _ _ _ _ _)
   | (with_reducible exact rules_sets.mono _ _ _ _)
   | (with_reducible exact LeO.refl _)
   | (with_reducible exact LeO.none _)
   | (with_reducible refine LeO.ite ?_ ?_)
   | (with_reducible refine LeO.bind ?_ (fun _ => ?_))
   | exact ih0 _ _ _ _ _ _ _ _
   | exact rules_sets.mono _ _ _ _
   | exact LeO.none _
   | refine LeO.ite ?_ ?_
   | refine LeO.bind ?_ (fun _ => ?_)
theorem rules_steps.mono : ∀ a0 a1 a2 a3 a4 a5 k, LeO (rules_steps.f k a0 a1 a2 a3 a4 a5) (rules_steps.f (k + 1) a0 a1 a2 a3 a4 a5) := by
 intro a0 a1 a2 a3 a4 a5 k
 have ih0 := rules_steps.mono_l k
 unfold rules_steps.f
 repeat' first
   | (with_reducible exact ih0 _ _ _ _ _ _ _ _)
   | (with_reducible exact rules_sets.mono _ _ _ _)
   | (with_reducible exact LeO.refl _)
   | (with_reducible exact LeO.none _)
   | (with_reducible refine LeO.ite ?_ ?_)
   | (with_reducible refine LeO.bind ?_ (fun _ => ?_))
   | exact ih0 _ _ _ _ _ _ _ _
   | exact rules_sets.mono _ _ _ _
   | exact LeO.none _
   | refine LeO.ite ?_ ?_
   | refine LeO.bind ?_ (fun _ => ?_)
set_option maxHeartbeats 8000000 in
set_option maxRecDepth 100000 in
theorem rules_steps.calls (k : Nat) (A0 : Option Addr) (c0 : Nat) (l0 : List (S60)) (A1_0 : Option Addr) (c1_0 : Nat) (l1_0 : List ByteArray) (A1_1 : Option Addr) (c1_1 : Nat) (l1_1 : List ByteArray) (A1_2 : Option Addr) (c1_2 : Nat) (l1_2 : List Int) (A1_3 : Option Addr) (c1_3 : Nat) (l1_3 : List (S38)) (a2 : Int) (r1 : Int) (r2 : Int) (w : World) (hr0 : Kd.C k60 w A0 l0.length l0) (hc0 : l0.length ≤ c0) (hr1_0 : Kd.C Kd.string w A1_0 l1_0.length l1_0) (hc1_0 : l1_0.length ≤ c1_0) (hr1_1 : Kd.C Kd.string w A1_1 l1_1.length l1_1) (hc1_1 : l1_1.length ≤ c1_1) (hr1_2 : Kd.C (Kd.int .i64) w A1_2 l1_2.length l1_2) (hc1_2 : l1_2.length ≤ c1_2) (hr1_3 : Kd.C k38 w A1_3 l1_3.length l1_3) (hc1_3 : l1_3.length ≤ c1_3) (h : rules_steps.f k l0 l1_0 l1_1 l1_2 l1_3 a2 = some (r1, r2)) :
  Calls Try.prog 50 #[.slice A0 l0.length c0, .agg #[.slice A1_0 l1_0.length c1_0, .slice A1_1 l1_1.length c1_1, .slice A1_2 l1_2.length c1_2, .slice A1_3 l1_3.length c1_3], .int .i64 a2] w fun e w' => e = .returned (.tuple #[.int .i64 r1, .int .i64 r2]) ∧ Below w.heap.size w w' := by
 have hu26 := Try.underlying26
 have hu60 := Try.underlying60
 have HR0 := Am hr0
 have HC0 := Am hc0
 clear hr0 hc0
 have HR1_0 := Am hr1_0
 have HC1_0 := Am hc1_0
 clear hr1_0 hc1_0
 have HR1_1 := Am hr1_1
 have HC1_1 := Am hc1_1
 clear hr1_1 hc1_1
 have HR1_2 := Am hr1_2
 have HC1_2 := Am hc1_2
 clear hr1_2 hc1_2
 have HR1_3 := Am hr1_3
 have HC1_3 := Am hc1_3
 clear hr1_3 hc1_3
 have HB := Am (Below.refl w.heap.size w)
 have H : (if (l0.length : Int) = 0 then (some (0, 2)) else (if (l0.length : Int) > 3 then (some (0, 4)) else (rules_steps.l0 k a2 l0 (l0.length : Int) 0 l1_0 l1_1 l1_2 l1_3))) = some (r1, r2) := h
 clear h
 by_cases c4 : (l0.length : Int) = 0
 ·
  rw [if_pos c4] at H
  have c4b0 : ((l0.length : Int) == 0) = true := beq_iff_eq.mpr c4
  have c4b1 : ((l0.length : Int) != 0) = false := bne_eq_false_iff_eq.mpr c4
  clear c4
  simp only [Option.some.injEq, Prod.mk.injEq] at H
  obtain ⟨rfl, rfl⟩ := H
  go_enter Try.func50, Try.ntmps50
  go_wp2_with (first | ((with_reducible refine gate_dst (N := 4) rfl ?_); refine bxe (N := 4) (cs := #[.slice A1_0 l1_0.length c1_0, .slice A1_1 l1_1.length c1_1, .slice A1_2 l1_2.length c1_2, .slice A1_3 l1_3.length c1_3]) (t := 26) ?_; intro gb174 hg w5 hbox hb; have n0_ := Am (below_step (bl) hb); have n1_ := Am (hbox); have n2_ := Am ((gE hg : w.heap.size ≤ gb174)); have n3_ := Am ((gE hg : w.heap.size ≤ gb174)); clear HB; have HB := n0_; have BK174 := n1_; have GW174 := n2_; have GE174 := n3_; clear n0_ n1_ n2_ n3_; clear hb hbox hg))
  go_ret2
  exact ⟨xq, bs⟩
 ·
  rw [if_neg c4] at H
  have c4b0 : ((l0.length : Int) == 0) = false := beq_eq_false_iff_ne.mpr c4
  have c4b1 : ((l0.length : Int) != 0) = true := bne_iff_ne.mpr c4
  have c4b2 : ¬ (l0 = []) := fun h_ => c4 (by rw [h_]; rfl)
  by_cases c6 : (l0.length : Int) > 3
  ·
   rw [if_pos c6] at H
   have c6b0 : decide (3 < (l0.length : Int)) = true := decide_eq_true c6
   have c6b1 : decide (3 < l0.length) = true := decide_eq_true (by omega)
   clear c6
   simp only [Option.some.injEq, Prod.mk.injEq] at H
   obtain ⟨rfl, rfl⟩ := H
   go_enter Try.func50, Try.ntmps50
   go_wp2_with (first | ((with_reducible refine gate_dst (N := 4) rfl ?_); refine bxe (N := 4) (cs := #[.slice A1_0 l1_0.length c1_0, .slice A1_1 l1_1.length c1_1, .slice A1_2 l1_2.length c1_2, .slice A1_3 l1_3.length c1_3]) (t := 26) ?_; intro gb174 hg w7 hbox hb; have n0_ := Am (below_step (bl) hb); have n1_ := Am (hbox); have n2_ := Am ((gE hg : w.heap.size ≤ gb174)); have n3_ := Am ((gE hg : w.heap.size ≤ gb174)); clear HB; have HB := n0_; have BK174 := n1_; have GW174 := n2_; have GE174 := n3_; clear n0_ n1_ n2_ n3_; clear hb hbox hg))
   go_ret2
   exact ⟨xq, bs⟩
  ·
   rw [if_neg c6] at H
   have c6b0 : decide (3 < (l0.length : Int)) = false := decide_eq_false c6
   have c6b1 : decide (3 < l0.length) = false := decide_eq_false (by omega)
   clear c6
   have H' := Am H
   clear H
   go_enter Try.func50, Try.ntmps50
   go_wp2_with (first | ((with_reducible refine gate_dst (N := 4) rfl ?_); refine bxe (N := 4) (cs := #[.slice A1_0 l1_0.length c1_0, .slice A1_1 l1_1.length c1_1, .slice A1_2 l1_2.length c1_2, .slice A1_3 l1_3.length c1_3]) (t := 26) ?_; intro gb174 hg w8 hbox hb; have n0_ := Am (below_step (bl) hb); have n1_ := Am (hbox); have n2_ := Am ((gE hg : w.heap.size ≤ gb174)); have n3_ := Am ((gE hg : w.heap.size ≤ gb174)); clear HB; have HB := n0_; have BK174 := n1_; have GW174 := n2_; have GE174 := n3_; clear n0_ n1_ n2_ n3_; clear hb hbox hg))
   go_loopg [21] k (fun kq v21 w' => ∃ (x21_1 : Int), v21 = .int .i64 x21_1 ∧ Aside0 (rules_steps.l0 kq a2 l0 (l0.length : Int) x21_1 l1_0 l1_1 l1_2 l1_3 = some (r1, r2)) ∧ Aside0 (kq ≤ k) ∧ Aside0 (w'.heap[gb174]? = some (.cells #[(.slice A1_0 l1_0.length c1_0), (.slice A1_1 l1_1.length c1_1), (.slice A1_2 l1_2.length c1_2), (.slice A1_3 l1_3.length c1_3)] 26 (0, 0))) ∧ Aside0 (Below w.heap.size w w'))
   case atStart => exact ⟨(0), rq, H', ⟨Nat.le_refl _⟩, ⟨kB BK174⟩, ⟨bs⟩⟩
   case round =>
    clear H'
    try clear c1
    try clear p2
    try clear c4
    try clear c4b0
    try clear c4b1
    try clear c4b2
    try clear c5
    try clear c6
    try clear c6b0
    try clear c6b1
    obtain ⟨x21_1, rfl, HA, HK1, BK174, HB⟩ := hrel
    cases gk with
    | zero => exact absurd HA.out (by simp [rules_steps.l0])
    | succ k1 =>
     have H := HA.out
     clear HA
     simp only [rules_steps.l0] at H
     by_cases c9 : x21_1 < (l0.length : Int)
     ·
      rw [if_pos c9] at H
      have c9b0 : decide (x21_1 < (l0.length : Int)) = true := decide_eq_true c9
      clear c9
      by_cases c10 : 0 ≤ x21_1
      ·
       rw [if_pos c10] at H
       have c10b0 : decide (0 ≤ x21_1) = true := decide_eq_true c10
       clear c10
       by_cases c11 : x21_1 < (l0.length : Int)
       ·
        rw [if_pos c11] at H
        have c11b0 : decide (x21_1 < (l0.length : Int)) = true := decide_eq_true c11
        clear c11
        by_cases c12 : ((rd_T60 l0 x21_1).f1) ≥ (l1_0.length : Int)
        ·
         rw [if_pos c12] at H
         have c12b0 : decide ((l1_0.length : Int) ≤ ((rd_T60 l0 x21_1).f1)) = true := decide_eq_true c12
         clear c12
         simp only [Option.some.injEq, Prod.mk.injEq] at H
         obtain ⟨rfl, rfl⟩ := H
         have p175 : 0 ≤ (x21_1 : Int) := of_decide_eq_true az
         have q175 : x21_1 < (l0.length : Int) := of_decide_eq_true az
         obtain ⟨ad175, A175_0, c175_0, e175, hx175_0, hx175_1, hl175_0, hi175_0⟩ := at_T60 HR0.out x21_1 p175 q175
         cases e175
         replace hx175_0 := hX HB hx175_0
         replace hx175_1 := hX HB hx175_1
         have HR175_0 := Am hi175_0
         have HC175_0 := Am hl175_0
         clear hi175_0 hl175_0
         replace p175 := eq_true p175
         replace q175 := eq_true q175
         go_wp2_with (first | ((with_reducible refine gate_dst (N := 9) rfl ?_); refine bxe (N := 9) (cs := #[.slice none 0 0, .int .i64 0]) (t := 60) ?_; intro gb176 hg w13 hbox hb; have n0_ := Am (blk_below (kB BK174) hb); have n1_ := Am (below_step (bs) hb); have n2_ := Am (hbox); have n3_ := Am ((gE hg : w.heap.size ≤ gb176)); have n4_ := Am ((gE hg : w.heap.size ≤ gb176)); have n5_ := Am (nL hg BK174); have n6_ := Am (nG hg BK174); clear BK174; clear HB; have BK174 := n0_; have HB := n1_; have BK176 := n2_; have GW176 := n3_; have GE176 := n4_; have NB174_176 := n5_; have NB176_174 := n6_; clear n0_ n1_ n2_ n3_ n4_ n5_ n6_; clear hb hbox hg; have hnb14 := NB176_174.out; have hnc14 := NB174_176.out; have hcz15_0 := cz0 BK176.out; have hcz15_1 := cz1 BK176.out; have hfz15_0 := fz BK176 0; have hfz15_1 := fz BK176 1; have hcz16_0 := cz0 BK174.out; have hcz16_1 := cz1 BK174.out; have hcz16_2 := cz2 BK174.out; have hcz16_3 := cz3 BK174.out; have hfz16_0 := fz BK174 0; have hfz16_1 := fz BK174 1; have hfz16_2 := fz BK174 2; have hfz16_3 := fz BK174 3))
         go_ret2
         exact ⟨xq, bs⟩
        ·
         rw [if_neg c12] at H
         have c12b0 : decide ((l1_0.length : Int) ≤ ((rd_T60 l0 x21_1).f1)) = false := decide_eq_false c12
         clear c12
         obtain ⟨t177, A170, H⟩ := Option.bind_eq_some_iff.mp H
         replace H : (if t177 = 0 then (rules_steps.l0 k1 a2 l0 (l0.length : Int) (wrap64 (x21_1 + 1)) l1_0 l1_1 l1_2 l1_3) else (some (x21_1, t177))) = some (r1, r2) := H
         have A17 := Am A170
         clear A170
         by_cases c18 : t177 = 0
         ·
          rw [if_pos c18] at H
          have c18b0 : (t177 == 0) = true := beq_iff_eq.mpr c18
          have c18b1 : (t177 != 0) = false := bne_eq_false_iff_eq.mpr c18
          clear c18
          have H' := Am H
          clear H
          have p175 : 0 ≤ (x21_1 : Int) := of_decide_eq_true az
          have q175 : x21_1 < (l0.length : Int) := of_decide_eq_true az
          obtain ⟨ad175, A175_0, c175_0, e175, hx175_0, hx175_1, hl175_0, hi175_0⟩ := at_T60 HR0.out x21_1 p175 q175
          cases e175
          replace hx175_0 := hX HB hx175_0
          replace hx175_1 := hX HB hx175_1
          have HR175_0 := Am hi175_0
          have HC175_0 := Am hl175_0
          clear hi175_0 hl175_0
          replace p175 := eq_true p175
          replace q175 := eq_true q175
          go_wp2_with (first | ((with_reducible refine gate_dst (N := 9) rfl ?_); refine bxe (N := 9) (cs := #[.slice none 0 0, .int .i64 0]) (t := 60) ?_; intro gb176 hg w19 hbox hb; have n0_ := Am (blk_below (kB BK174) hb); have n1_ := Am (below_step (bs) hb); have n2_ := Am (hbox); have n3_ := Am ((gE hg : w.heap.size ≤ gb176)); have n4_ := Am ((gE hg : w.heap.size ≤ gb176)); have n5_ := Am (nL hg BK174); have n6_ := Am (nG hg BK174); clear BK174; clear HB; have BK174 := n0_; have HB := n1_; have BK176 := n2_; have GW176 := n3_; have GE176 := n4_; have NB174_176 := n5_; have NB176_174 := n6_; clear n0_ n1_ n2_ n3_ n4_ n5_ n6_; clear hb hbox hg; have hnb20 := NB176_174.out; have hnc20 := NB174_176.out; have hcz21_0 := cz0 BK176.out; have hcz21_1 := cz1 BK176.out; have hfz21_0 := fz BK176 0; have hfz21_1 := fz BK176 1; have hcz22_0 := cz0 BK174.out; have hcz22_1 := cz1 BK174.out; have hcz22_2 := cz2 BK174.out; have hcz22_3 := cz3 BK174.out; have hfz22_0 := fz BK174 0; have hfz22_1 := fz BK174 1; have hfz22_2 := fz BK174 2; have hfz22_3 := fz BK174 3) | ((with_reducible refine gate_callee (f := 60) rfl ?_); refine goesL_ (some 39) rfl rfl Try.func60 (by kernel_rfl) rfl #[.slice A175_0 ((rd_T60 l0 x21_1).f0).length c175_0, .int .i64 (l1_1.length : Int), .int .i64 a2] rfl aq ?_; (with_reducible refine (rules_sets.calls k1 _ _ ((rd_T60 l0 x21_1).f0) (l1_1.length : Int) a2 t177 _ ?side1 ?side2 A17.out).mono ?_); (case side1 => exact Kd.C_below HR175_0.out (bs)); (case side2 => exact HC175_0.out); rintro e w23 ⟨rfl, hb⟩; refine ⟨_, rfl, ?_⟩; have n0_ := Am (blk_below (kZ BK174) hb); have n1_ := Am (blk_below (g := gb176) (o := .cells #[.slice A175_0 ((rd_T60 l0 x21_1).f0).length c175_0, .int .i64 ((rd_T60 l0 x21_1).f1)] 60 (0, 0)) (by (with_reducible repeat (first | refine blk_drewN ?_ _ | refine blk_drew ?_ | refine blk_alloc ?_ _)); refine blk_put (cs := #[.slice A175_0 ((rd_T60 l0 x21_1).f0).length c175_0, .int .i64 0]) ?_ 1 _ rfl; (with_reducible repeat (first | refine blk_drewN ?_ _ | refine blk_drew ?_ | refine blk_alloc ?_ _)); refine blk_put (cs := #[.slice none 0 0, .int .i64 0]) ?_ 0 _ rfl; (with_reducible repeat (first | refine blk_drewN ?_ _ | refine blk_drew ?_ | refine blk_alloc ?_ _)); exact BK176.out) hb); have n2_ := Am (below_step (bs) hb); clear BK174; clear BK176; clear HB; have BK174 := n0_; have BK176 := n1_; have HB := n2_; clear n0_ n1_ n2_; (try clear hb); (try clear hb2); (try clear hk); (try clear hi)))
          go_roundg k1
          case measure => have := HK1.out; omega
          case rel => exact ⟨(wrap64 (x21_1 + 1)), rq, H', ⟨by have := HK1.out; omega⟩, ⟨kB BK174⟩, ⟨bs⟩⟩
         ·
          rw [if_neg c18] at H
          have c18b0 : (t177 == 0) = false := beq_eq_false_iff_ne.mpr c18
          have c18b1 : (t177 != 0) = true := bne_iff_ne.mpr c18
          simp only [Option.some.injEq, Prod.mk.injEq] at H
          obtain ⟨rfl, rfl⟩ := H
          have p175 : 0 ≤ (x21_1 : Int) := of_decide_eq_true az
          have q175 : x21_1 < (l0.length : Int) := of_decide_eq_true az
          obtain ⟨ad175, A175_0, c175_0, e175, hx175_0, hx175_1, hl175_0, hi175_0⟩ := at_T60 HR0.out x21_1 p175 q175
          cases e175
          replace hx175_0 := hX HB hx175_0
          replace hx175_1 := hX HB hx175_1
          have HR175_0 := Am hi175_0
          have HC175_0 := Am hl175_0
          clear hi175_0 hl175_0
          replace p175 := eq_true p175
          replace q175 := eq_true q175
          go_wp2_with (first | ((with_reducible refine gate_dst (N := 9) rfl ?_); refine bxe (N := 9) (cs := #[.slice none 0 0, .int .i64 0]) (t := 60) ?_; intro gb176 hg w24 hbox hb; have n0_ := Am (blk_below (kB BK174) hb); have n1_ := Am (below_step (bs) hb); have n2_ := Am (hbox); have n3_ := Am ((gE hg : w.heap.size ≤ gb176)); have n4_ := Am ((gE hg : w.heap.size ≤ gb176)); have n5_ := Am (nL hg BK174); have n6_ := Am (nG hg BK174); clear BK174; clear HB; have BK174 := n0_; have HB := n1_; have BK176 := n2_; have GW176 := n3_; have GE176 := n4_; have NB174_176 := n5_; have NB176_174 := n6_; clear n0_ n1_ n2_ n3_ n4_ n5_ n6_; clear hb hbox hg; have hnb25 := NB176_174.out; have hnc25 := NB174_176.out; have hcz26_0 := cz0 BK176.out; have hcz26_1 := cz1 BK176.out; have hfz26_0 := fz BK176 0; have hfz26_1 := fz BK176 1; have hcz27_0 := cz0 BK174.out; have hcz27_1 := cz1 BK174.out; have hcz27_2 := cz2 BK174.out; have hcz27_3 := cz3 BK174.out; have hfz27_0 := fz BK174 0; have hfz27_1 := fz BK174 1; have hfz27_2 := fz BK174 2; have hfz27_3 := fz BK174 3) | ((with_reducible refine gate_callee (f := 60) rfl ?_); refine goesL_ (some 39) rfl rfl Try.func60 (by kernel_rfl) rfl #[.slice A175_0 ((rd_T60 l0 x21_1).f0).length c175_0, .int .i64 (l1_1.length : Int), .int .i64 a2] rfl aq ?_; (with_reducible refine (rules_sets.calls k1 _ _ ((rd_T60 l0 x21_1).f0) (l1_1.length : Int) a2 t177 _ ?side1 ?side2 A17.out).mono ?_); (case side1 => exact Kd.C_below HR175_0.out (bs)); (case side2 => exact HC175_0.out); rintro e w28 ⟨rfl, hb⟩; refine ⟨_, rfl, ?_⟩; have n0_ := Am (blk_below (kZ BK174) hb); have n1_ := Am (blk_below (g := gb176) (o := .cells #[.slice A175_0 ((rd_T60 l0 x21_1).f0).length c175_0, .int .i64 ((rd_T60 l0 x21_1).f1)] 60 (0, 0)) (by (with_reducible repeat (first | refine blk_drewN ?_ _ | refine blk_drew ?_ | refine blk_alloc ?_ _)); refine blk_put (cs := #[.slice A175_0 ((rd_T60 l0 x21_1).f0).length c175_0, .int .i64 0]) ?_ 1 _ rfl; (with_reducible repeat (first | refine blk_drewN ?_ _ | refine blk_drew ?_ | refine blk_alloc ?_ _)); refine blk_put (cs := #[.slice none 0 0, .int .i64 0]) ?_ 0 _ rfl; (with_reducible repeat (first | refine blk_drewN ?_ _ | refine blk_drew ?_ | refine blk_alloc ?_ _)); exact BK176.out) hb); have n2_ := Am (below_step (bs) hb); clear BK174; clear BK176; clear HB; have BK174 := n0_; have BK176 := n1_; have HB := n2_; clear n0_ n1_ n2_; (try clear hb); (try clear hb2); (try clear hk); (try clear hi)))
          go_ret2
          exact ⟨xq, bs⟩
       ·
        rw [if_neg c11] at H
        exact absurd H (by simp)
      ·
       rw [if_neg c10] at H
       exact absurd H (by simp)
     ·
      rw [if_neg c9] at H
      have c9b0 : decide (x21_1 < (l0.length : Int)) = false := decide_eq_false c9
      clear c9
      simp only [Option.some.injEq, Prod.mk.injEq] at H
      obtain ⟨rfl, rfl⟩ := H
      go_wp2
      go_ret2
      exact ⟨xq, bs⟩

end Go.Proofs.Ytdfhbmallnegfaa.PA
