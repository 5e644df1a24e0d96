-- Written by a program (wip/tools/gprint.py: a patched copy of the kit's print) and by hand, for this claim
import Derived.Test.YtdfhbmallnegfaaPAx0
import Derived.Test.YtdfhbmallnegfaaPAx8
import Derived.Test.YtdfhbmallnegfaaPAx9
namespace Go.Proofs.Ytdfhbmallnegfaa.PA
open Go.RowKit Go.Proofs.YtdfhbmallnegfaaW.PrintWords Go.Proofs.YtdfhbmallnegfaaW.PrintLast Go.Proofs.YtdfhbmallnegfaaW.PrintMore
attribute [local go_sem] max2_int min2_int max_two min_two max_three min_three max_four min_four   -- for this text's walks alone
set_option linter.unusedVariables false
set_option linter.unusedSimpArgs false

/-! ### rules_Dead: function 17 -/
mutual
def rules_Dead.l0 : Nat → List Bool → List Int → Int → Int → List ByteArray → List ByteArray → List Int → List (S38) → Option (List Int)
 | 0, _, _, _, _, _, _, _, _ => none
 | k + 1, x3, x4, x13, x14, x519000, x519001, x519002, x519003 => if x14 < x13 then (rules_Dead.l1 k x3 x4 x14 (decide ((x3.length : Int) > 0)) x13 x14 x3 (x3.length : Int) 0 x519000 x519001 x519002 x519003) else (some x4)
def rules_Dead.l1 : Nat → List Bool → List Int → Int → Bool → Int → Int → List Bool → Int → Int → List ByteArray → List ByteArray → List Int → List (S38) → Option (List Int)
 | 0, _, _, _, _, _, _, _, _, _, _, _, _, _ => none
 | k + 1, x3, x4, x5, x6, x13, x14, x20, x21, x22, x519000, x519001, x519002, x519003 => if x22 < x21 then (if 0 ≤ x22 then (if x22 < (x20.length : Int) then (if rdOf false x20 x22 = true then ((rules_For.f k x519000 x519001 x519002 x519003 x5 x22).bind fun t523 => (if t523 = true then (rules_Dead.l1 k x3 x4 x5 false x13 x14 x20 x21 (wrap64 (x22 + 1)) x519000 x519001 x519002 x519003) else (rules_Dead.l1 k x3 x4 x5 x6 x13 x14 x20 x21 (wrap64 (x22 + 1)) x519000 x519001 x519002 x519003))) else (rules_Dead.l1 k x3 x4 x5 x6 x13 x14 x20 x21 (wrap64 (x22 + 1)) x519000 x519001 x519002 x519003)) else (none)) else (none)) else (if x6 = true then (if x4.length < 17592186044416 then (rules_Dead.l0 k x3 (x4 ++ [x5]) x13 (wrap64 (x14 + 1)) x519000 x519001 x519002 x519003) else (none)) else (rules_Dead.l0 k x3 x4 x13 (wrap64 (x14 + 1)) x519000 x519001 x519002 x519003))
end
def rules_Dead.f (k : Nat) (l0_0 : List ByteArray) (l0_1 : List ByteArray) (l0_2 : List Int) (l0_3 : List (S38)) : Option (List Int) := (rules_Reach.f k l0_0 l0_1 l0_2 l0_3).bind fun t519 => (rules_Dead.l0 k t519 ([] : List Int) (l0_3.length : Int) 0 l0_0 l0_1 l0_2 l0_3)
theorem rules_Dead.mono_l : ∀ k, (∀ y0 y1 y2 y3 y4 y5 y6 y7, LeO (rules_Dead.l0 k y0 y1 y2 y3 y4 y5 y6 y7) (rules_Dead.l0 (k + 1) y0 y1 y2 y3 y4 y5 y6 y7)) ∧ (∀ y0 y1 y2 y3 y4 y5 y6 y7 y8 y9 y10 y11 y12, LeO (rules_Dead.l1 k y0 y1 y2 y3 y4 y5 y6 y7 y8 y9 y10 y11 y12) (rules_Dead.l1 (k + 1) y0 y1 y2 y3 y4 y5 y6 y7 y8 y9 y10 y11 y12))
 | 0 => ⟨fun _ _ _ _ _ _ _ _ r h => by simp [rules_Dead.l0] at h, fun _ _ _ _ _ _ _ _ _ _ _ _ _ r h => by simp [rules_Dead.l1] at h⟩
 | k + 1 => by
  obtain ⟨ih0, ih1⟩ := rules_Dead.mono_l k
  refine ⟨?_, ?_⟩
  ·
   intro y0 y1 y2 y3 y4 y5 y6 y7
   unfold rules_Dead.l0
   repeat' first
   | (with_reducible exact ih0 _ _ _ _ _ _ _ _)
   | (with_reducible exact ih1 _ _ _ _ _ _ _ _ _ _ _ _ _)
   | (with_reducible exact rules_For.mono _ _ _ _ _ _ _)
   | (with_reducible exact rules_Reach.mono _ _ _ _ _)
   | (with_reducible exact LeO.refl _)
   | (with_reducible exact LeO.none _)
   | (with_reducible refine LeO.ite ?_ ?_)
   | (with_reducible refine LeO.bind ?_ (fun _ => ?_))
   | exact ih0 _ _ _ _ _ _ _ _
   | exact ih1 _ _ _ _ _ _ _ _ _ _ _ _ _
   | exact rules_For.mono _ _ _ _ _ _ _
   | exact rules_Reach.mono _ _ _ _ _
   | exact LeO.none _
   | refine LeO.ite ?_ ?_
   | refine LeO.bind ?_ (fun _ => ?_)
  ·
   intro y0 y1 y2 y3 y4 y5 y6 y7 y8 y9 y10 y11 y12
   unfold rules_Dead.l1
   repeat' first
   | (with_reducible exact ih0 _ _ _ _ _ _ _ _)
   | (with_reducible exact ih1 _ _ _ _ _ _ _ _ _ _ _ _ _)
   | (with_reducible exact rules_For.mono _ _ _ _ _ _ _)
   | (with_reducible exact rules_Reach.mono _ _ _ _ _)
   | (with_reducible exact LeO.refl _)
   | (with_reducible exact LeO.none _)
   | (with_reducible refine LeO.ite ?_ ?_)
   | (with_reducible refine LeO.bind ?_ (fun _ => ?_))
   | exact ih0 _ _ _ _ _ _ _ _
   | exact ih1 _ _ _ _ _ _ _ _ _ _ _ _ _
   | exact rules_For.mono _ _ _ _ _ _ _
   | exact rules_Reach.mono _ _ _ _ _
   | exact LeO.none _
   | refine LeO.ite ?_ ?_
   | refine LeO.bind ?_ (fun _ => ?_)
theorem rules_Dead.mono : ∀ a0 a1 a2 a3 k, LeO (rules_Dead.f k a0 a1 a2 a3) (rules_Dead.f (k + 1) a0 a1 a2 a3) := by
 intro a0 a1 a2 a3 k
 obtain ⟨ih0, ih1⟩ := rules_Dead.mono_l k
 unfold rules_Dead.f
 repeat' first
   | (with_reducible exact ih0 _ _ _ _ _ _ _ _)
   | (with_reducible exact ih1 _ _ _ _ _ _ _ _ _ _ _ _ _)
   | (with_reducible exact rules_For.mono _ _ _ _ _ _ _)
   | (with_reducible exact rules_Reach.mono _ _ _ _ _)
   | (with_reducible exact LeO.refl _)
   | (with_reducible exact LeO.none _)
   | (with_reducible refine LeO.ite ?_ ?_)
   | (with_reducible refine LeO.bind ?_ (fun _ => ?_))
   | exact ih0 _ _ _ _ _ _ _ _
   | exact ih1 _ _ _ _ _ _ _ _ _ _ _ _ _
   | exact rules_For.mono _ _ _ _ _ _ _
   | exact rules_Reach.mono _ _ _ _ _
   | exact LeO.none _
   | refine LeO.ite ?_ ?_
   | refine LeO.bind ?_ (fun _ => ?_)
set_option maxHeartbeats 8000000 in
set_option maxRecDepth 100000 in
theorem rules_Dead.calls (k : Nat) (A0_0 : Option Addr) (c0_0 : Nat) (l0_0 : List ByteArray) (A0_1 : Option Addr) (c0_1 : Nat) (l0_1 : List ByteArray) (A0_2 : Option Addr) (c0_2 : Nat) (l0_2 : List Int) (A0_3 : Option Addr) (c0_3 : Nat) (l0_3 : List (S38)) (r : List Int) (w : World) (hr0_0 : Kd.C Kd.string w A0_0 l0_0.length l0_0) (hc0_0 : l0_0.length ≤ c0_0) (hr0_1 : Kd.C Kd.string w A0_1 l0_1.length l0_1) (hc0_1 : l0_1.length ≤ c0_1) (hr0_2 : Kd.C (Kd.int .i64) w A0_2 l0_2.length l0_2) (hc0_2 : l0_2.length ≤ c0_2) (hr0_3 : Kd.C k38 w A0_3 l0_3.length l0_3) (hc0_3 : l0_3.length ≤ c0_3) (h : rules_Dead.f k l0_0 l0_1 l0_2 l0_3 = some r) :
  Calls Try.prog 17 #[.agg #[.slice A0_0 l0_0.length c0_0, .slice A0_1 l0_1.length c0_1, .slice A0_2 l0_2.length c0_2, .slice A0_3 l0_3.length c0_3]] w fun e w' => ∃ v0_ : Value, e = .returned (v0_) ∧ Kd.R (Kd.int .i64) 3 w' w.heap.size (fun _ => True) v0_ r ∧ Below w.heap.size w w' := by
 have hu26 := Try.underlying26
 have HR0_0 := Am hr0_0
 have HC0_0 := Am hc0_0
 clear hr0_0 hc0_0
 have HR0_1 := Am hr0_1
 have HC0_1 := Am hc0_1
 clear hr0_1 hc0_1
 have HR0_2 := Am hr0_2
 have HC0_2 := Am hc0_2
 clear hr0_2 hc0_2
 have HR0_3 := Am hr0_3
 have HC0_3 := Am hc0_3
 clear hr0_3 hc0_3
 have HB := Am (Below.refl w.heap.size w)
 have H : ((rules_Reach.f k l0_0 l0_1 l0_2 l0_3).bind fun t519 => (rules_Dead.l0 k t519 ([] : List Int) (l0_3.length : Int) 0 l0_0 l0_1 l0_2 l0_3)) = some r := h
 clear h
 obtain ⟨t519, A20, H⟩ := Option.bind_eq_some_iff.mp H
 replace H : (rules_Dead.l0 k t519 ([] : List Int) (l0_3.length : Int) 0 l0_0 l0_1 l0_2 l0_3) = some r := H
 have A2 := Am A20
 clear A20
 have H' := Am H
 clear H
 go_enter Try.func17, Try.ntmps17
 go_wp2_with (first | ((with_reducible refine gate_dst (N := 1) rfl ?_); refine bxe (N := 1) (cs := #[.slice A0_0 l0_0.length c0_0, .slice A0_1 l0_1.length c0_1, .slice A0_2 l0_2.length c0_2, .slice A0_3 l0_3.length c0_3]) (t := 26) ?_; intro gb518 hg w3 hbox hb; have n0_ := Am (below_step (bl) hb); have n1_ := Am (hbox); have n2_ := Am ((gE hg : w.heap.size ≤ gb518)); have n3_ := Am ((gE hg : w.heap.size ≤ gb518)); clear HB; have HB := n0_; have BK518 := n1_; have GW518 := n2_; have GE518 := n3_; clear n0_ n1_ n2_ n3_; clear hb hbox hg; have hcz4_0 := cz0 BK518.out; have hcz4_1 := cz1 BK518.out; have hcz4_2 := cz2 BK518.out; have hcz4_3 := cz3 BK518.out; have hfz4_0 := fz BK518 0; have hfz4_1 := fz BK518 1; have hfz4_2 := fz BK518 2; have hfz4_3 := fz BK518 3) | ((with_reducible refine gate_callee (f := 16) rfl ?_); refine goesL_ (some 10) rfl rfl Try.func16 (by kernel_rfl) rfl #[.agg #[.slice A0_0 l0_0.length c0_0, .slice A0_1 l0_1.length c0_1, .slice A0_2 l0_2.length c0_2, .slice A0_3 l0_3.length c0_3]] rfl aq ?_; (with_reducible refine (rules_Reach.calls k _ _ l0_0 _ _ l0_1 _ _ l0_2 _ _ l0_3 t519 _ ?side1 ?side2 ?side3 ?side4 ?side5 ?side6 ?side7 ?side8 A2.out).mono ?_); (case side1 => exact kC HR0_0); (case side2 => exact HC0_0.out); (case side3 => exact kC HR0_1); (case side4 => exact HC0_1.out); (case side5 => exact kC HR0_2); (case side6 => exact HC0_2.out); (case side7 => exact kC HR0_3); (case side8 => exact HC0_3.out); rintro e w5 ⟨v520, rfl, ho0, hb⟩; refine ⟨_, rfl, ?_⟩; have n0_ := Am (Kd.R_lower ho0 (below_size (bs))); have n1_ := Am (blk_below (kB BK518) hb); have n2_ := Am (below_step (bs) hb); clear BK518; clear HB; have HO521 := n0_; have BK518 := n1_; have HB := n2_; clear n0_ n1_ n2_; (try clear hb); (try clear hb2); (try clear hk); (try clear hi); (try clear ho0); have hcz6_0 := cz0 BK518.out; have hcz6_1 := cz1 BK518.out; have hcz6_2 := cz2 BK518.out; have hcz6_3 := cz3 BK518.out; have hfz6_0 := fz BK518 0; have hfz6_1 := fz BK518 1; have hfz6_2 := fz BK518 2; have hfz6_3 := fz BK518 3))
 go_loopg [4, 14] k (fun kq v4 v14 w' => ∃ (x4_1 : List Int) (x14_1 : Int), v14 = .int .i64 x14_1 ∧ Aside0 (rules_Dead.l0 kq t519 x4_1 (l0_3.length : Int) x14_1 l0_0 l0_1 l0_2 l0_3 = some r) ∧ Aside0 (kq ≤ k) ∧ Aside0 (Kd.R Kd.bool 4 w' w.heap.size (fun _ => True) v520 t519) ∧ Aside0 (Kd.R (Kd.int .i64) 3 w' w.heap.size (fun _ => True) v4 x4_1) ∧ Aside0 (w'.heap[gb518]? = some (.cells #[(.slice A0_0 l0_0.length c0_0), (.slice A0_1 l0_1.length c0_1), (.slice A0_2 l0_2.length c0_2), (.slice A0_3 l0_3.length c0_3)] 26 (0, 0))) ∧ Aside0 (Below w.heap.size w w'))
 case atStart => exact ⟨(([] : List Int)), (0), rq, H', ⟨Nat.le_refl _⟩, ⟨kR HO521⟩, ⟨by first | exact Kd.R_nil _ _ _ _ _ | exact Kd.N_nil _ _ _ _ _ | exact Kd.V_nil _ _ _ _ _ | exact Kd.Q_nil _ _ _ _ _ | exact Kd.S_nil _ _ _ _ _⟩, ⟨kB BK518⟩, ⟨bs⟩⟩
 case round =>
  clear H'
  try clear c1
  try clear p2
  try clear hcz4_0
  try clear hcz4_1
  try clear hcz4_2
  try clear hcz4_3
  try clear hcz6_0
  try clear hcz6_1
  try clear hcz6_2
  try clear hcz6_3
  try clear hfz4_0
  try clear hfz4_1
  try clear hfz4_2
  try clear hfz4_3
  try clear hfz6_0
  try clear hfz6_1
  try clear hfz6_2
  try clear hfz6_3
  obtain ⟨x4_1, x14_1, rfl, HA, HK1, HO_3, HO_4, BK518, HB⟩ := hrel
  cases gk with
  | zero => exact absurd HA.out (by simp [rules_Dead.l0])
  | succ k1 =>
   have H := HA.out
   clear HA
   simp only [rules_Dead.l0] at H
   by_cases c7 : x14_1 < (l0_3.length : Int)
   ·
    rw [if_pos c7] at H
    have c7b0 : decide (x14_1 < (l0_3.length : Int)) = true := decide_eq_true c7
    clear c7
    have H' := Am H
    clear H
    obtain ⟨Ao8, co8, eo8⟩ := Kd.R_slice HO_3.out
    subst eo8
    go_wp2
    go_loopg [6, 22] k1 (fun kq v6 v22 w' => ∃ (x6_2 : Bool) (x22_2 : Int), v6 = .bool x6_2 ∧ v22 = .int .i64 x22_2 ∧ Aside0 (rules_Dead.l1 kq t519 x4_1 x14_1 x6_2 (l0_3.length : Int) x14_1 t519 (t519.length : Int) x22_2 l0_0 l0_1 l0_2 l0_3 = some r) ∧ Aside0 (kq ≤ k1) ∧ Aside0 (Kd.R Kd.bool 4 w' w.heap.size (fun _ => True) (.slice Ao8 t519.length co8) t519) ∧ Aside0 (Kd.R (Kd.int .i64) 3 w' w.heap.size (fun _ => True) u4 x4_1) ∧ Aside0 (Kd.R Kd.bool 4 w' w.heap.size (fun _ => True) (.slice Ao8 t519.length co8) t519) ∧ Aside0 (w'.heap[gb518]? = some (.cells #[(.slice A0_0 l0_0.length c0_0), (.slice A0_1 l0_1.length c0_1), (.slice A0_2 l0_2.length c0_2), (.slice A0_3 l0_3.length c0_3)] 26 (0, 0))) ∧ Aside0 (Below w.heap.size w w'))
    case atStart => exact ⟨(decide ((t519.length : Int) > 0)), (0), rq, rq, H', ⟨Nat.le_refl _⟩, ⟨kR HO_3⟩, ⟨kR HO_4⟩, ⟨kR HO_3⟩, ⟨kB BK518⟩, ⟨bs⟩⟩
    case round =>
     clear H'
     try clear c1
     try clear p2
     try clear c7
     try clear c7b0
     try clear hcz4_0
     try clear hcz4_1
     try clear hcz4_2
     try clear hcz4_3
     try clear hcz6_0
     try clear hcz6_1
     try clear hcz6_2
     try clear hcz6_3
     try clear hfz4_0
     try clear hfz4_1
     try clear hfz4_2
     try clear hfz4_3
     try clear hfz6_0
     try clear hfz6_1
     try clear hfz6_2
     try clear hfz6_3
     try clear p2
     obtain ⟨x6_2, x22_2, rfl, rfl, HA, HK2, HO_3, HO_4, HO_20, BK518, HB⟩ := hrel
     cases gk with
     | zero => exact absurd HA.out (by simp [rules_Dead.l1])
     | succ k2 =>
      have H := HA.out
      clear HA
      simp only [rules_Dead.l1] at H
      by_cases c9 : x22_2 < (t519.length : Int)
      ·
       rw [if_pos c9] at H
       have c9b0 : decide (x22_2 < (t519.length : Int)) = true := decide_eq_true c9
       clear c9
       by_cases c10 : 0 ≤ x22_2
       ·
        rw [if_pos c10] at H
        have c10b0 : decide (0 ≤ x22_2) = true := decide_eq_true c10
        clear c10
        by_cases c11 : x22_2 < (t519.length : Int)
        ·
         rw [if_pos c11] at H
         have c11b0 : decide (x22_2 < (t519.length : Int)) = true := decide_eq_true c11
         clear c11
         obtain ⟨bq12, hbq12⟩ : ∃ b_ : Bool, b_ = (rdOf false t519 x22_2) := ⟨_, rfl⟩
         replace H : (if bq12 = true then ((rules_For.f k2 l0_0 l0_1 l0_2 l0_3 x14_1 x22_2).bind fun t523 => (if t523 = true then (rules_Dead.l1 k2 t519 x4_1 x14_1 false (l0_3.length : Int) x14_1 t519 (t519.length : Int) (wrap64 (x22_2 + 1)) l0_0 l0_1 l0_2 l0_3) else (rules_Dead.l1 k2 t519 x4_1 x14_1 x6_2 (l0_3.length : Int) x14_1 t519 (t519.length : Int) (wrap64 (x22_2 + 1)) l0_0 l0_1 l0_2 l0_3))) else (rules_Dead.l1 k2 t519 x4_1 x14_1 x6_2 (l0_3.length : Int) x14_1 t519 (t519.length : Int) (wrap64 (x22_2 + 1)) l0_0 l0_1 l0_2 l0_3)) = some r := by rw [← hbq12] at H; exact H
         have Nbq12 := Am hbq12
         clear hbq12
         by_cases c13 : bq12 = true
         ·
          subst c13
          have H1 : ((rules_For.f k2 l0_0 l0_1 l0_2 l0_3 x14_1 x22_2).bind fun t523 => (if t523 = true then (rules_Dead.l1 k2 t519 x4_1 x14_1 false (l0_3.length : Int) x14_1 t519 (t519.length : Int) (wrap64 (x22_2 + 1)) l0_0 l0_1 l0_2 l0_3) else (rules_Dead.l1 k2 t519 x4_1 x14_1 x6_2 (l0_3.length : Int) x14_1 t519 (t519.length : Int) (wrap64 (x22_2 + 1)) l0_0 l0_1 l0_2 l0_3))) = some r := by rw [if_pos rfl] at H; exact H
          clear H
          have H := H1
          clear H1
          obtain ⟨t523, A140, H⟩ := Option.bind_eq_some_iff.mp H
          try dsimp only at H
          have A14 := Am A140
          clear A140
          by_cases c15 : t523 = true
          ·
           subst c15
           have H1 : (rules_Dead.l1 k2 t519 x4_1 x14_1 false (l0_3.length : Int) x14_1 t519 (t519.length : Int) (wrap64 (x22_2 + 1)) l0_0 l0_1 l0_2 l0_3) = some r := by rw [if_pos rfl] at H; exact H
           clear H
           have H := H1
           clear H1
           have H' := Am H
           clear H
           have p522 : 0 ≤ (x22_2 : Int) := of_decide_eq_true az
           have q522 : x22_2 < (t519.length : Int) := of_decide_eq_true az
           obtain ⟨ad522, e522, hx522_0⟩ := Kd.at_bool (Kd.R_reads' HO_20.out).2.2 x22_2 p522 q522
           (try rw [← Nbq12.out] at hx522_0)
           cases e522
           replace p522 := eq_true p522
           replace q522 := eq_true q522
           have hcz16_0 := cz0 BK518.out
           have hcz16_1 := cz1 BK518.out
           have hcz16_2 := cz2 BK518.out
           have hcz16_3 := cz3 BK518.out
           have hfz16_0 := fz BK518 0
           have hfz16_1 := fz BK518 1
           have hfz16_2 := fz BK518 2
           have hfz16_3 := fz BK518 3
           go_wp2_with (first | (go_at_call 13; (with_reducible refine (rules_For.calls k2 _ _ l0_0 _ _ l0_1 _ _ l0_2 _ _ l0_3 x14_1 x22_2 true _ ?side1 ?side2 ?side3 ?side4 ?side5 ?side6 ?side7 ?side8 A14.out).mono ?_); (case side1 => exact kC HR0_0); (case side2 => exact HC0_0.out); (case side3 => exact kC HR0_1); (case side4 => exact HC0_1.out); (case side5 => exact kC HR0_2); (case side6 => exact HC0_2.out); (case side7 => exact kC HR0_3); (case side8 => exact HC0_3.out); rintro e w17 ⟨rfl, hb⟩; have n0_ := Am (Kd.R_below (kR HO_3) hb); have n1_ := Am (Kd.R_below (kR HO_4) hb); have n2_ := Am (Kd.R_below (kR HO_20) hb); have n3_ := Am (blk_below (kB BK518) hb); have n4_ := Am (below_step (bs) hb); clear HO_3; clear HO_4; clear HO_20; clear BK518; clear HB; have HO_3 := n0_; have HO_4 := n1_; have HO_20 := n2_; have BK518 := n3_; have HB := n4_; clear n0_ n1_ n2_ n3_ n4_; (try clear hb); (try clear hb2); (try clear hk); (try clear hi)))
           go_roundg k2
           case measure => have := HK1.out; have := HK2.out; omega
           case rel => exact ⟨(false), (wrap64 (x22_2 + 1)), rq, rq, H', ⟨by have := HK1.out; have := HK2.out; omega⟩, ⟨kR HO_3⟩, ⟨kR HO_4⟩, ⟨kR HO_20⟩, ⟨kB BK518⟩, ⟨bs⟩⟩
          ·
           replace c15 := Bool.eq_false_iff.mpr c15
           subst c15
           have H1 : (rules_Dead.l1 k2 t519 x4_1 x14_1 x6_2 (l0_3.length : Int) x14_1 t519 (t519.length : Int) (wrap64 (x22_2 + 1)) l0_0 l0_1 l0_2 l0_3) = some r := by rw [if_neg (show ¬ (false = true) by decide)] at H; exact H
           clear H
           have H := H1
           clear H1
           have H' := Am H
           clear H
           have p522 : 0 ≤ (x22_2 : Int) := of_decide_eq_true az
           have q522 : x22_2 < (t519.length : Int) := of_decide_eq_true az
           obtain ⟨ad522, e522, hx522_0⟩ := Kd.at_bool (Kd.R_reads' HO_20.out).2.2 x22_2 p522 q522
           (try rw [← Nbq12.out] at hx522_0)
           cases e522
           replace p522 := eq_true p522
           replace q522 := eq_true q522
           have hcz18_0 := cz0 BK518.out
           have hcz18_1 := cz1 BK518.out
           have hcz18_2 := cz2 BK518.out
           have hcz18_3 := cz3 BK518.out
           have hfz18_0 := fz BK518 0
           have hfz18_1 := fz BK518 1
           have hfz18_2 := fz BK518 2
           have hfz18_3 := fz BK518 3
           go_wp2_with (first | (go_at_call 13; (with_reducible refine (rules_For.calls k2 _ _ l0_0 _ _ l0_1 _ _ l0_2 _ _ l0_3 x14_1 x22_2 false _ ?side1 ?side2 ?side3 ?side4 ?side5 ?side6 ?side7 ?side8 A14.out).mono ?_); (case side1 => exact kC HR0_0); (case side2 => exact HC0_0.out); (case side3 => exact kC HR0_1); (case side4 => exact HC0_1.out); (case side5 => exact kC HR0_2); (case side6 => exact HC0_2.out); (case side7 => exact kC HR0_3); (case side8 => exact HC0_3.out); rintro e w19 ⟨rfl, hb⟩; have n0_ := Am (Kd.R_below (kR HO_3) hb); have n1_ := Am (Kd.R_below (kR HO_4) hb); have n2_ := Am (Kd.R_below (kR HO_20) hb); have n3_ := Am (blk_below (kB BK518) hb); have n4_ := Am (below_step (bs) hb); clear HO_3; clear HO_4; clear HO_20; clear BK518; clear HB; have HO_3 := n0_; have HO_4 := n1_; have HO_20 := n2_; have BK518 := n3_; have HB := n4_; clear n0_ n1_ n2_ n3_ n4_; (try clear hb); (try clear hb2); (try clear hk); (try clear hi)))
           go_roundg k2
           case measure => have := HK1.out; have := HK2.out; omega
           case rel => exact ⟨(x6_2), (wrap64 (x22_2 + 1)), rq, rq, H', ⟨by have := HK1.out; have := HK2.out; omega⟩, ⟨kR HO_3⟩, ⟨kR HO_4⟩, ⟨kR HO_20⟩, ⟨kB BK518⟩, ⟨bs⟩⟩
         ·
          replace c13 := Bool.eq_false_iff.mpr c13
          subst c13
          have H1 : (rules_Dead.l1 k2 t519 x4_1 x14_1 x6_2 (l0_3.length : Int) x14_1 t519 (t519.length : Int) (wrap64 (x22_2 + 1)) l0_0 l0_1 l0_2 l0_3) = some r := by rw [if_neg (show ¬ (false = true) by decide)] at H; exact H
          clear H
          have H := H1
          clear H1
          have H' := Am H
          clear H
          have p522 : 0 ≤ (x22_2 : Int) := of_decide_eq_true az
          have q522 : x22_2 < (t519.length : Int) := of_decide_eq_true az
          obtain ⟨ad522, e522, hx522_0⟩ := Kd.at_bool (Kd.R_reads' HO_20.out).2.2 x22_2 p522 q522
          (try rw [← Nbq12.out] at hx522_0)
          cases e522
          replace p522 := eq_true p522
          replace q522 := eq_true q522
          go_wp2
          go_roundg k2
          case measure => have := HK1.out; have := HK2.out; omega
          case rel => exact ⟨(x6_2), (wrap64 (x22_2 + 1)), rq, rq, H', ⟨by have := HK1.out; have := HK2.out; omega⟩, ⟨kR HO_3⟩, ⟨kR HO_4⟩, ⟨kR HO_20⟩, ⟨kB BK518⟩, ⟨bs⟩⟩
        ·
         rw [if_neg c11] at H
         exact absurd H (by simp)
       ·
        rw [if_neg c10] at H
        exact absurd H (by simp)
      ·
       rw [if_neg c9] at H
       have c9b0 : decide (x22_2 < (t519.length : Int)) = false := decide_eq_false c9
       clear c9
       by_cases c20 : x6_2 = true
       ·
        subst c20
        have H1 : (if x4_1.length < 17592186044416 then (rules_Dead.l0 k2 t519 (x4_1 ++ [x14_1]) (l0_3.length : Int) (wrap64 (x14_1 + 1)) l0_0 l0_1 l0_2 l0_3) else (none)) = some r := by rw [if_pos rfl] at H; exact H
        clear H
        have H := H1
        clear H1
        by_cases c21 : x4_1.length < 17592186044416
        ·
         rw [if_pos c21] at H
         have LMc21 := Am c21
         clear c21
         obtain ⟨y524, hy524⟩ : ∃ y_ : List Int, y_ = (x4_1 ++ [x14_1]) := ⟨_, rfl⟩
         replace H : (rules_Dead.l0 k2 t519 y524 (l0_3.length : Int) (wrap64 (x14_1 + 1)) l0_0 l0_1 l0_2 l0_3) = some r := by first | (rw [hy524]; with_reducible exact H) | (have H2_ := (Option.bind_some _ _).symm.trans H; rw [hy524]; with_reducible exact H2_) | (have H2_ := (Option.bind_some _ _).symm.trans H; with_reducible exact H2_) | with_reducible exact H | (rw [hy524]; exact H) | exact H
         have Ny524 := Am hy524
         clear hy524
         have H' := Am H
         clear H
         go_wp2_with (first | ((with_reducible refine gate_builtin (b := .append) (xs := #[.tmp 36, .tmp 38]) rfl ?_); at_builtin; refine Kd.R_append (Kd.int .i64) (w0 := w) w.heap.size rfl (.tmp 36) (.tmp 38) 23 3 (.int .i64 0) 8 rfl Try.underlying23 info3 rfl (by decide) (by omega) u4 x4_1 x14_1 [.int .i64 x14_1] (fun _ => True) (fun _ => False) rfl rfl ?aP (fun _ hk => hk.elim) ?aF ?aO ?aB ?aS ?aL ?_; (case aP => exact rfl); (case aB => exact (bs)); (case aF => exact (fun _ _ => trivial)); (case aO => exact (kR HO_4)); (case aS => exact (below_size (bs))); (case aL => have := LMc21.out; omega); intro v525 w22 ho hb hg hat; rw [← Ny524.out] at ho; have n0_ := Am (Kd.R_over' (kR HO_3) (Kd.R_typed (kR HO_4)) (by decide) hg); have n1_ := Am (Kd.R_over' (kR HO_20) (Kd.R_typed (kR HO_4)) (by decide) hg); have n2_ := Am (blk_grown (g := gb518) (o := .cells #[.slice A0_0 l0_0.length c0_0, .slice A0_1 l0_1.length c0_1, .slice A0_2 l0_2.length c0_2, .slice A0_3 l0_3.length c0_3] 26 (0, 0)) (kB BK518) hg (Kd.R_ne HO_4.out BK518.out (by decide))); have n3_ := Am (hb); have n4_ := Am (ho); clear HO_3; clear HO_20; clear BK518; clear HB; clear HO_4; have HO_3 := n0_; have HO_20 := n1_; have BK518 := n2_; have HB := n3_; have HO526 := n4_; clear n0_ n1_ n2_ n3_ n4_; clear ho hb hg hat))
         go_roundg k2
         case measure => have := HK1.out; have := HK2.out; omega
         case rel => exact ⟨(y524), (wrap64 (x14_1 + 1)), rq, H', ⟨by have := HK1.out; have := HK2.out; omega⟩, ⟨kR HO_3⟩, ⟨kR HO526⟩, ⟨kB BK518⟩, ⟨bs⟩⟩
        ·
         rw [if_neg c21] at H
         exact absurd H (by simp)
       ·
        replace c20 := Bool.eq_false_iff.mpr c20
        subst c20
        have H1 : (rules_Dead.l0 k2 t519 x4_1 (l0_3.length : Int) (wrap64 (x14_1 + 1)) l0_0 l0_1 l0_2 l0_3) = some r := by rw [if_neg (show ¬ (false = true) by decide)] at H; exact H
        clear H
        have H := H1
        clear H1
        have H' := Am H
        clear H
        go_wp2
        go_roundg k2
        case measure => have := HK1.out; have := HK2.out; omega
        case rel => exact ⟨(x4_1), (wrap64 (x14_1 + 1)), rq, H', ⟨by have := HK1.out; have := HK2.out; omega⟩, ⟨kR HO_3⟩, ⟨kR HO_4⟩, ⟨kB BK518⟩, ⟨bs⟩⟩
   ·
    rw [if_neg c7] at H
    have c7b0 : decide (x14_1 < (l0_3.length : Int)) = false := decide_eq_false c7
    clear c7
    obtain rfl := Option.some.inj H
    go_wp2
    go_ret
    exact ⟨_, xq, by (with_reducible repeat (first | apply Kd.R_alloc | apply Kd.R_drewN | apply Kd.R_drew)); exact HO_4.out, bs⟩

/-! ### surmiseref03_Bools: function 18 -/
def surmiseref03_Bools.l0 : Nat → List Bool → List Bool → Int → Option (Bool)
 | 0, _, _, _ => none
 | k + 1, x0, x1, x5 => if x5 < (x0.length : Int) then (if 0 ≤ x5 then (if x5 < (x1.length : Int) then (if ((rdOf false x0 x5) != (rdOf false x1 x5)) = true then (some false) else (surmiseref03_Bools.l0 k x0 x1 (wrap64 (x5 + 1)))) else (none)) else (none)) else (some true)
def surmiseref03_Bools.f (k : Nat) (l0 : List Bool) (l1 : List Bool) : Option (Bool) := if (l0.length : Int) = (l1.length : Int) then (surmiseref03_Bools.l0 k l0 l1 0) else (some false)
theorem surmiseref03_Bools.mono_l : ∀ k, (∀ y0 y1 y2, LeO (surmiseref03_Bools.l0 k y0 y1 y2) (surmiseref03_Bools.l0 (k + 1) y0 y1 y2))
 | 0 => fun _ _ _ r h => by simp [surmiseref03_Bools.l0] at h
 | k + 1 => by
  have ih0 := surmiseref03_Bools.mono_l k
  ·
   intro y0 y1 y2
   unfold surmiseref03_Bools.l0
   repeat' first
   | (with_reducible exact ih0 _ _ _)
   | (with_reducible exact LeO.refl _)
   | (with_reducible exact LeO.none _)
   | (with_reducible refine LeO.ite ?_ ?_)
   | (with_reducible refine LeO.bind ?_ (fun _ => ?_))
   | exact ih0 _ _ _
   | exact LeO.none _
   | refine LeO.ite ?_ ?_
   | refine LeO.bind ?_ (fun _ => ?_)
theorem surmiseref03_Bools.mono : ∀ a0 a1 k, LeO (surmiseref03_Bools.f k a0 a1) (surmiseref03_Bools.f (k + 1) a0 a1) := by
 intro a0 a1 k
 have ih0 := surmiseref03_Bools.mono_l k
 unfold surmiseref03_Bools.f
 repeat' first
   | (with_reducible exact ih0 _ _ _)
   | (with_reducible exact LeO.refl _)
   | (with_reducible exact LeO.none _)
   | (with_reducible refine LeO.ite ?_ ?_)
   | (with_reducible refine LeO.bind ?_ (fun _ => ?_))
   | exact ih0 _ _ _
   | exact LeO.none _
   | refine LeO.ite ?_ ?_
   | refine LeO.bind ?_ (fun _ => ?_)
set_option maxHeartbeats 8000000 in
set_option maxRecDepth 100000 in
theorem surmiseref03_Bools.calls (k : Nat) (A0 : Option Addr) (c0 : Nat) (l0 : List Bool) (A1 : Option Addr) (c1 : Nat) (l1 : List Bool) (r : Bool) (w : World) (hr0 : Kd.C Kd.bool w A0 l0.length l0) (hc0 : l0.length ≤ c0) (hr1 : Kd.C Kd.bool w A1 l1.length l1) (hc1 : l1.length ≤ c1) (h : surmiseref03_Bools.f k l0 l1 = some r) :
  Calls Try.prog 18 #[.slice A0 l0.length c0, .slice A1 l1.length c1] w fun e w' => e = .returned (.bool r) ∧ Drawn0 w w' := by
 have HR0 := Am hr0
 have HC0 := Am hc0
 clear hr0 hc0
 have HR1 := Am hr1
 have HC1 := Am hc1
 clear hr1 hc1
 have H : (if (l0.length : Int) = (l1.length : Int) then (surmiseref03_Bools.l0 k l0 l1 0) else (some false)) = some r := h
 clear h
 by_cases c3 : (l0.length : Int) = (l1.length : Int)
 ·
  rw [if_pos c3] at H
  have c3b0 : ((l0.length : Int) == (l1.length : Int)) = true := beq_iff_eq.mpr c3
  have c3b1 : ((l0.length : Int) != (l1.length : Int)) = false := bne_eq_false_iff_eq.mpr c3
  have c3b2 : (l0.length == l1.length) = true := by first | simpa using c3 | (simp at c3 ⊢; omega)
  clear c3
  have H' := Am H
  clear H
  go_enter Try.func18, Try.ntmps18
  go_wp2
  repeat (go_quiet (fail); try go_wp2)
  go_loopg [5] k (fun kq v5 w' => ∃ (x5_1 : Int), v5 = .int .i64 x5_1 ∧ Aside0 (surmiseref03_Bools.l0 kq l0 l1 x5_1 = some r) ∧ Aside0 (kq ≤ k) ∧ Drawn0 w w')
  case atStart => exact ⟨(0), rq, H', ⟨Nat.le_refl _⟩, by repeat (first | exact Drawn0.refl _ | apply Drawn0.step)⟩
  case round =>
   clear H'
   try clear c1
   try clear p2
   try clear c3
   try clear c3b0
   try clear c3b1
   try clear c3b2
   obtain ⟨x5_1, rfl, HA, HK1, ⟨m1, rfl⟩⟩ := hrel
   cases gk with
   | zero => exact absurd HA.out (by simp [surmiseref03_Bools.l0])
   | succ k1 =>
    have H := HA.out
    clear HA
    simp only [surmiseref03_Bools.l0] at H
    by_cases c4 : x5_1 < (l0.length : Int)
    ·
     rw [if_pos c4] at H
     have c4b0 : decide (x5_1 < (l0.length : Int)) = true := decide_eq_true c4
     clear c4
     by_cases c5 : 0 ≤ x5_1
     ·
      rw [if_pos c5] at H
      have c5b0 : decide (0 ≤ x5_1) = true := decide_eq_true c5
      clear c5
      by_cases c6 : x5_1 < (l1.length : Int)
      ·
       rw [if_pos c6] at H
       have c6b0 : decide (x5_1 < (l1.length : Int)) = true := decide_eq_true c6
       clear c6
       by_cases c7 : ((rdOf false l0 x5_1) != (rdOf false l1 x5_1)) = true
       ·
        rw [if_pos c7] at H
        have c7b0 : ((rdOf false l0 x5_1) != (rdOf false l1 x5_1)) = true := c7
        (try (have c7b1 : decide ((rdOf false l0 x5_1) = (rdOf false l1 x5_1)) = false := by simpa using c7))
        (try (have c7b2 : ((rdOf false l0 x5_1) == (rdOf false l1 x5_1)) = false := by simpa using c7))
        (try (have c7b3 : ¬ ((rdOf false l0 x5_1) = (rdOf false l1 x5_1)) := by simpa using c7))
        clear c7
        obtain rfl := Option.some.inj H
        have p527 : 0 ≤ (x5_1 : Int) := of_decide_eq_true az
        have q527 : x5_1 < (l0.length : Int) := of_decide_eq_true az
        obtain ⟨ad527, e527, hx527_0⟩ := Kd.at_bool HR0.out x5_1 p527 q527
        cases e527
        replace p527 := eq_true p527
        replace q527 := eq_true q527
        have p528 : 0 ≤ (x5_1 : Int) := of_decide_eq_true az
        have q528 : x5_1 < (l1.length : Int) := of_decide_eq_true az
        obtain ⟨ad528, e528, hx528_0⟩ := Kd.at_bool HR1.out x5_1 p528 q528
        cases e528
        replace p528 := eq_true p528
        replace q528 := eq_true q528
        go_wp2
        repeat (go_quiet (fail); try go_wp2)
        go_ret
        exact ⟨by first | rfl | (simp; done) | (simp [*]; done), by repeat (first | exact Drawn0.refl _ | apply Drawn0.step)⟩
       ·
        rw [if_neg c7] at H
        have c7b0 : ((rdOf false l0 x5_1) != (rdOf false l1 x5_1)) = false := by simpa using c7
        (try (have c7b1 : decide ((rdOf false l0 x5_1) = (rdOf false l1 x5_1)) = true := by simpa using c7))
        (try (have c7b2 : ((rdOf false l0 x5_1) == (rdOf false l1 x5_1)) = true := by simpa using c7))
        clear c7
        have H' := Am H
        clear H
        have p527 : 0 ≤ (x5_1 : Int) := of_decide_eq_true az
        have q527 : x5_1 < (l0.length : Int) := of_decide_eq_true az
        obtain ⟨ad527, e527, hx527_0⟩ := Kd.at_bool HR0.out x5_1 p527 q527
        cases e527
        replace p527 := eq_true p527
        replace q527 := eq_true q527
        have p528 : 0 ≤ (x5_1 : Int) := of_decide_eq_true az
        have q528 : x5_1 < (l1.length : Int) := of_decide_eq_true az
        obtain ⟨ad528, e528, hx528_0⟩ := Kd.at_bool HR1.out x5_1 p528 q528
        cases e528
        replace p528 := eq_true p528
        replace q528 := eq_true q528
        go_wp2
        repeat (go_quiet (fail); try go_wp2)
        go_roundg k1
        case measure => have := HK1.out; omega
        case rel => exact ⟨(wrap64 (x5_1 + 1)), rq, H', ⟨by have := HK1.out; omega⟩, by repeat (first | exact Drawn0.refl _ | apply Drawn0.step)⟩
      ·
       rw [if_neg c6] at H
       exact absurd H (by simp)
     ·
      rw [if_neg c5] at H
      exact absurd H (by simp)
    ·
     rw [if_neg c4] at H
     have c4b0 : decide (x5_1 < (l0.length : Int)) = false := decide_eq_false c4
     clear c4
     obtain rfl := Option.some.inj H
     go_wp2
     repeat (go_quiet (fail); try go_wp2)
     go_ret
     exact ⟨by first | rfl | (simp; done) | (simp [*]; done), by repeat (first | exact Drawn0.refl _ | apply Drawn0.step)⟩
 ·
  rw [if_neg c3] at H
  have c3b0 : ((l0.length : Int) == (l1.length : Int)) = false := beq_eq_false_iff_ne.mpr c3
  have c3b1 : ((l0.length : Int) != (l1.length : Int)) = true := bne_iff_ne.mpr c3
  have c3b2 : (l0.length == l1.length) = false := by first | simpa using c3 | (simp at c3 ⊢; omega)
  obtain rfl := Option.some.inj H
  go_enter Try.func18, Try.ntmps18
  go_wp2
  repeat (go_quiet (fail); try go_wp2)
  go_ret
  exact ⟨by first | rfl | (simp; done) | (simp [*]; done), by repeat (first | exact Drawn0.refl _ | apply Drawn0.step)⟩

/-! ### surmiseref05_To: function 22 -/
def surmiseref05_To.l0 : Nat → Int → Int → ByteArray → Int → List Int → List (S66) → List (S60) → Option (Int)
 | 0, _, _, _, _, _, _, _ => none
 | k + 1, x1, x5, x530000, x530001, x530002, x530003, x530004 => if x5 ≥ 0 then (if 0 ≤ x5 then (if x5 < (x530004.length : Int) then (if ((rd_T60 x530004 x5).f1) ≥ 0 then (some ((rd_T60 x530004 x5).f1)) else (surmiseref05_To.l0 k x1 (wrap64 (x5 - 1)) x530000 x530001 x530002 x530003 x530004)) else (none)) else (none)) else (some x1)
def surmiseref05_To.f (k : Nat) (a0_0 : ByteArray) (a0_1 : Int) (l0_2 : List Int) (l0_3 : List (S66)) (l0_4 : List (S60)) (a1 : Int) : Option (Int) := surmiseref05_To.l0 k a1 (wrap64 ((l0_4.length : Int) - 1)) a0_0 a0_1 l0_2 l0_3 l0_4
theorem surmiseref05_To.mono_l : ∀ k, (∀ y0 y1 y2 y3 y4 y5 y6, LeO (surmiseref05_To.l0 k y0 y1 y2 y3 y4 y5 y6) (surmiseref05_To.l0 (k + 1) y0 y1 y2 y3 y4 y5 y6))
 | 0 => fun _ _ _ _ _ _ _ r h => by simp [surmiseref05_To.l0] at h
 | k + 1 => by
  have ih0 := surmiseref05_To.mono_l k
  ·
   intro y0 y1 y2 y3 y4 y5 y6
   unfold surmiseref05_To.l0
   repeat' first
   | (with_reducible exact ih0 _ _ _ _ _ _ _)
   | (with_reducible exact LeO.refl _)
   | (with_reducible exact LeO.none _)
   | (with_reducible refine LeO.ite ?_ ?_)
   | (with_reducible refine LeO.bind ?_ (fun _ => ?_))
   | exact ih0 _ _ _ _ _ _ _
   | exact LeO.none _
   | refine LeO.ite ?_ ?_
   | refine LeO.bind ?_ (fun _ => ?_)
theorem surmiseref05_To.mono : ∀ a0 a1 a2 a3 a4 a5 k, LeO (surmiseref05_To.f k a0 a1 a2 a3 a4 a5) (surmiseref05_To.f (k + 1) a0 a1 a2 a3 a4 a5) := by
 intro a0 a1 a2 a3 a4 a5 k
 have ih0 := surmiseref05_To.mono_l k
 unfold surmiseref05_To.f
 repeat' first
   | (with_reducible exact ih0 _ _ _ _ _ _ _)
   | (with_reducible exact LeO.refl _)
   | (with_reducible exact LeO.none _)
   | (with_reducible refine LeO.ite ?_ ?_)
   | (with_reducible refine LeO.bind ?_ (fun _ => ?_))
   | exact ih0 _ _ _ _ _ _ _
   | exact LeO.none _
   | refine LeO.ite ?_ ?_
   | refine LeO.bind ?_ (fun _ => ?_)
set_option maxHeartbeats 8000000 in
set_option maxRecDepth 100000 in
theorem surmiseref05_To.calls (k : Nat) (a0_0 : ByteArray) (a0_1 : Int) (A0_2 : Option Addr) (c0_2 : Nat) (l0_2 : List Int) (A0_3 : Option Addr) (c0_3 : Nat) (l0_3 : List (S66)) (A0_4 : Option Addr) (c0_4 : Nat) (l0_4 : List (S60)) (a1 : Int) (r : Int) (w : World) (hr0_2 : Kd.C (Kd.int .i64) w A0_2 l0_2.length l0_2) (hc0_2 : l0_2.length ≤ c0_2) (hr0_3 : Kd.C k66 w A0_3 l0_3.length l0_3) (hc0_3 : l0_3.length ≤ c0_3) (hr0_4 : Kd.C k60 w A0_4 l0_4.length l0_4) (hc0_4 : l0_4.length ≤ c0_4) (h : surmiseref05_To.f k a0_0 a0_1 l0_2 l0_3 l0_4 a1 = some r) :
  Calls Try.prog 22 #[.agg #[.string a0_0, .int .i64 a0_1, .slice A0_2 l0_2.length c0_2, .slice A0_3 l0_3.length c0_3, .slice A0_4 l0_4.length c0_4], .int .i64 a1] w fun e w' => e = .returned (.int .i64 r) ∧ Below w.heap.size w w' := by
 have hu38 := Try.underlying38
 have HR0_2 := Am hr0_2
 have HC0_2 := Am hc0_2
 clear hr0_2 hc0_2
 have HR0_3 := Am hr0_3
 have HC0_3 := Am hc0_3
 clear hr0_3 hc0_3
 have HR0_4 := Am hr0_4
 have HC0_4 := Am hc0_4
 clear hr0_4 hc0_4
 have HB := Am (Below.refl w.heap.size w)
 have H : (surmiseref05_To.l0 k a1 (wrap64 ((l0_4.length : Int) - 1)) a0_0 a0_1 l0_2 l0_3 l0_4) = some r := h
 clear h
 have H' := Am H
 clear H
 go_enter Try.func22, Try.ntmps22
 go_wp2_with (first | ((with_reducible refine gate_dst (N := 2) rfl ?_); refine bxe (N := 2) (cs := #[.string a0_0, .int .i64 a0_1, .slice A0_2 l0_2.length c0_2, .slice A0_3 l0_3.length c0_3, .slice A0_4 l0_4.length c0_4]) (t := 38) ?_; intro gb529 hg w3 hbox hb; have n0_ := Am (below_step (bl) hb); have n1_ := Am (hbox); have n2_ := Am ((gE hg : w.heap.size ≤ gb529)); have n3_ := Am ((gE hg : w.heap.size ≤ gb529)); clear HB; have HB := n0_; have BK529 := n1_; have GW529 := n2_; have GE529 := n3_; clear n0_ n1_ n2_ n3_; clear hb hbox hg; have hcz4_0 := cz0 BK529.out; have hcz4_1 := cz1 BK529.out; have hcz4_2 := cz2 BK529.out; have hcz4_3 := cz3 BK529.out; have hcz4_4 := cz4 BK529.out; have hfz4_0 := fz BK529 0; have hfz4_1 := fz BK529 1; have hfz4_2 := fz BK529 2; have hfz4_3 := fz BK529 3; have hfz4_4 := fz BK529 4))
 go_loopg [5] k (fun kq v5 w' => ∃ (x5_1 : Int), v5 = .int .i64 x5_1 ∧ Aside0 (surmiseref05_To.l0 kq a1 x5_1 a0_0 a0_1 l0_2 l0_3 l0_4 = some r) ∧ Aside0 (kq ≤ k) ∧ Aside0 (w'.heap[gb529]? = some (.cells #[.string a0_0, .int .i64 a0_1, (.slice A0_2 l0_2.length c0_2), (.slice A0_3 l0_3.length c0_3), (.slice A0_4 l0_4.length c0_4)] 38 (0, 0))) ∧ Aside0 (Below w.heap.size w w'))
 case atStart => exact ⟨(wrap64 ((l0_4.length : Int) - 1)), rq, H', ⟨Nat.le_refl _⟩, ⟨kB BK529⟩, ⟨bs⟩⟩
 case round =>
  clear H'
  try clear c2
  try clear p2
  try clear hcz4_0
  try clear hcz4_1
  try clear hcz4_2
  try clear hcz4_3
  try clear hcz4_4
  try clear hfz4_0
  try clear hfz4_1
  try clear hfz4_2
  try clear hfz4_3
  try clear hfz4_4
  obtain ⟨x5_1, rfl, HA, HK1, BK529, HB⟩ := hrel
  cases gk with
  | zero => exact absurd HA.out (by simp [surmiseref05_To.l0])
  | succ k1 =>
   have H := HA.out
   clear HA
   simp only [surmiseref05_To.l0] at H
   by_cases c5 : x5_1 ≥ 0
   ·
    rw [if_pos c5] at H
    have c5b0 : decide (0 ≤ x5_1) = true := decide_eq_true c5
    clear c5
    by_cases c6 : 0 ≤ x5_1
    ·
     rw [if_pos c6] at H
     have c6b0 : decide (0 ≤ x5_1) = true := decide_eq_true c6
     clear c6
     by_cases c7 : x5_1 < (l0_4.length : Int)
     ·
      rw [if_pos c7] at H
      have c7b0 : decide (x5_1 < (l0_4.length : Int)) = true := decide_eq_true c7
      clear c7
      by_cases c8 : ((rd_T60 l0_4 x5_1).f1) ≥ 0
      ·
       rw [if_pos c8] at H
       have c8b0 : decide (0 ≤ ((rd_T60 l0_4 x5_1).f1)) = true := decide_eq_true c8
       clear c8
       obtain rfl := Option.some.inj H
       have hcz9_0 := cz0 BK529.out
       have hcz9_1 := cz1 BK529.out
       have hcz9_2 := cz2 BK529.out
       have hcz9_3 := cz3 BK529.out
       have hcz9_4 := cz4 BK529.out
       have hfz9_0 := fz BK529 0
       have hfz9_1 := fz BK529 1
       have hfz9_2 := fz BK529 2
       have hfz9_3 := fz BK529 3
       have hfz9_4 := fz BK529 4
       have p530 : 0 ≤ (x5_1 : Int) := of_decide_eq_true az
       have q530 : x5_1 < (l0_4.length : Int) := of_decide_eq_true az
       obtain ⟨ad530, A530_0, c530_0, e530, hx530_0, hx530_1, hl530_0, hi530_0⟩ := at_T60 HR0_4.out x5_1 p530 q530
       cases e530
       replace hx530_0 := hX HB hx530_0
       replace hx530_1 := hX HB hx530_1
       have HR530_0 := Am hi530_0
       have HC530_0 := Am hl530_0
       clear hi530_0 hl530_0
       replace p530 := eq_true p530
       replace q530 := eq_true q530
       have p531 : 0 ≤ (x5_1 : Int) := of_decide_eq_true az
       have q531 : x5_1 < (l0_4.length : Int) := of_decide_eq_true az
       obtain ⟨ad531, A531_0, c531_0, e531, hx531_0, hx531_1, hl531_0, hi531_0⟩ := at_T60 HR0_4.out x5_1 p531 q531
       obtain rfl : ad530 = ad531 := (by injection e531)
       replace hx531_0 := hX HB hx531_0
       replace hx531_1 := hX HB hx531_1
       have HR531_0 := Am hi531_0
       have HC531_0 := Am hl531_0
       clear hi531_0 hl531_0
       replace p531 := eq_true p531
       replace q531 := eq_true q531
       have ea_ := Option.some.inj (hx530_0.symm.trans hx531_0)
       injection ea_ with ea_ en_ ec_
       subst ea_
       subst ec_
       clear en_
       go_wp2
       go_ret
       exact ⟨xq, bs⟩
      ·
       rw [if_neg c8] at H
       have c8b0 : decide (0 ≤ ((rd_T60 l0_4 x5_1).f1)) = false := decide_eq_false c8
       clear c8
       have H' := Am H
       clear H
       have hcz10_0 := cz0 BK529.out
       have hcz10_1 := cz1 BK529.out
       have hcz10_2 := cz2 BK529.out
       have hcz10_3 := cz3 BK529.out
       have hcz10_4 := cz4 BK529.out
       have hfz10_0 := fz BK529 0
       have hfz10_1 := fz BK529 1
       have hfz10_2 := fz BK529 2
       have hfz10_3 := fz BK529 3
       have hfz10_4 := fz BK529 4
       have p530 : 0 ≤ (x5_1 : Int) := of_decide_eq_true az
       have q530 : x5_1 < (l0_4.length : Int) := of_decide_eq_true az
       obtain ⟨ad530, A530_0, c530_0, e530, hx530_0, hx530_1, hl530_0, hi530_0⟩ := at_T60 HR0_4.out x5_1 p530 q530
       cases e530
       replace hx530_0 := hX HB hx530_0
       replace hx530_1 := hX HB hx530_1
       have HR530_0 := Am hi530_0
       have HC530_0 := Am hl530_0
       clear hi530_0 hl530_0
       replace p530 := eq_true p530
       replace q530 := eq_true q530
       go_wp2
       go_roundg k1
       case measure => have := HK1.out; omega
       case rel => exact ⟨(wrap64 (x5_1 - 1)), rq, H', ⟨by have := HK1.out; omega⟩, ⟨kB BK529⟩, ⟨bs⟩⟩
     ·
      rw [if_neg c7] at H
      exact absurd H (by simp)
    ·
     rw [if_neg c6] at H
     exact absurd H (by simp)
   ·
    rw [if_neg c5] at H
    have c5b0 : decide (0 ≤ x5_1) = false := decide_eq_false c5
    clear c5
    obtain rfl := Option.some.inj H
    go_wp2
    go_ret
    exact ⟨xq, bs⟩

end Go.Proofs.Ytdfhbmallnegfaa.PA
