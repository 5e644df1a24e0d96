-- Written by a program (wip/tools/gprint.py: a patched copy of the kit's print) and by hand, for this claim
import Derived.Test.YtdfhbmallnegfaaPAx0
import Derived.Test.YtdfhbmallnegfaaPAx9
import Derived.Test.YtdfhbmallnegfaaPAx10
import Derived.Test.YtdfhbmallnegfaaPAx16
import Derived.Test.YtdfhbmallnegfaaPAx18
namespace Go.Proofs.Ytdfhbmallnegfaa.PA
open Go.RowKit Go.Proofs.YtdfhbmallnegfaaW.PrintWords Go.Proofs.YtdfhbmallnegfaaW.PrintLast Go.Proofs.YtdfhbmallnegfaaW.PrintMore
attribute [local go_sem] max2_int min2_int max_two min_two max_three min_three max_four min_four   -- for this text's walks alone
set_option linter.unusedVariables false
set_option linter.unusedSimpArgs false

/-! ### surmiselaw05_RulesClosed: function 7 -/
mutual
def surmiselaw05_RulesClosed.j0 : Nat → List Bool → List Int → Bool → List ByteArray → List ByteArray → List Int → List (S38) → Option (Bool)
 | 0, _, _, _, _, _, _, _ => none
 | k + 1, x3, x4, x19, x581000, x581001, x581002, x581003 => if x19 = true then ((surmiselaw05_awake.f k).bind fun t588 => (if t588 = true then (some ((x4.length : Int) == 0)) else (none))) else (surmiselaw05_RulesClosed.l0 k x3 x4 0 x581000 x581001 x581002 x581003)
def surmiselaw05_RulesClosed.l0 : Nat → List Bool → List Int → Int → List ByteArray → List ByteArray → List Int → List (S38) → Option (Bool)
 | 0, _, _, _, _, _, _, _ => none
 | k + 1, x3, x4, x5, x581000, x581001, x581002, x581003 => if x5 < (x581003.length : Int) then (surmiselaw05_RulesClosed.l1 k x3 x4 x5 false 0 x581000 x581001 x581002 x581003) else (if 0 < (x3.length : Int) then (some (rdOf false x3 0)) else (none))
def surmiselaw05_RulesClosed.l1 : Nat → List Bool → List Int → Int → Bool → Int → List ByteArray → List ByteArray → List Int → List (S38) → Option (Bool)
 | 0, _, _, _, _, _, _, _, _, _ => none
 | k + 1, x3, x4, x5, x6, x7, x581000, x581001, x581002, x581003 => if x7 < (x4.length : Int) then (if x6 = true then (surmiselaw05_RulesClosed.l1 k x3 x4 x5 true (wrap64 (x7 + 1)) x581000 x581001 x581002 x581003) else (if 0 ≤ x7 then (surmiselaw05_RulesClosed.l1 k x3 x4 x5 ((rd x4 x7) == x5) (wrap64 (x7 + 1)) x581000 x581001 x581002 x581003) else (none))) else (surmiselaw05_RulesClosed.l2 k x3 x4 x5 x6 0 x581000 x581001 x581002 x581003)
def surmiselaw05_RulesClosed.l2 : Nat → List Bool → List Int → Int → Bool → Int → List ByteArray → List ByteArray → List Int → List (S38) → Option (Bool)
 | 0, _, _, _, _, _, _, _, _, _ => none
 | k + 1, x3, x4, x5, x6, x8, x581000, x581001, x581002, x581003 => if x8 < (x3.length : Int) then (if 0 ≤ x8 then (if rdOf false x3 x8 = true then ((surmiseref05_For.f k x581000 x581001 x581002 x581003 x5 x8).bind fun t592 => (if t592 = true then (if x6 = true then (none) else (if 0 ≤ x5 then (if x5 < (x581003.length : Int) then ((surmiseref05_To.f k ((rd_T38 x581003 x5).f0) ((rd_T38 x581003 x5).f1) ((rd_T38 x581003 x5).f2) ((rd_T38 x581003 x5).f3) ((rd_T38 x581003 x5).f4) x8).bind fun t594 => (if 0 ≤ t594 then (if t594 < (x3.length : Int) then (if rdOf false x3 t594 = true then (surmiselaw05_RulesClosed.l2 k x3 x4 x5 x6 (wrap64 (x8 + 1)) x581000 x581001 x581002 x581003) else (none)) else (none)) else (none))) else (none)) else (none))) else (surmiselaw05_RulesClosed.l2 k x3 x4 x5 x6 (wrap64 (x8 + 1)) x581000 x581001 x581002 x581003))) else (surmiselaw05_RulesClosed.l2 k x3 x4 x5 x6 (wrap64 (x8 + 1)) x581000 x581001 x581002 x581003)) else (none)) else (surmiselaw05_RulesClosed.l0 k x3 x4 (wrap64 (x5 + 1)) x581000 x581001 x581002 x581003)
end
def surmiselaw05_RulesClosed.f (k : Nat) (l0_0 : List ByteArray) (l0_1 : List ByteArray) (l0_2 : List Int) (l0_3 : List (S38)) : Option (Bool) := (rules_Reach.f k l0_0 l0_1 l0_2 l0_3).bind fun t581 => ((rules_Dead.f k l0_0 l0_1 l0_2 l0_3).bind fun t584 => ((surmiselaw05_awake.f k).bind fun t587 => (if t587 = true then (surmiselaw05_RulesClosed.j0 k t581 t584 ((t581.length : Int) == 0) l0_0 l0_1 l0_2 l0_3) else (surmiselaw05_RulesClosed.j0 k t581 t584 true l0_0 l0_1 l0_2 l0_3))))
theorem surmiselaw05_RulesClosed.mono_l : ∀ k, (∀ y0 y1 y2 y3 y4 y5 y6, LeO (surmiselaw05_RulesClosed.j0 k y0 y1 y2 y3 y4 y5 y6) (surmiselaw05_RulesClosed.j0 (k + 1) y0 y1 y2 y3 y4 y5 y6)) ∧ (∀ y0 y1 y2 y3 y4 y5 y6, LeO (surmiselaw05_RulesClosed.l0 k y0 y1 y2 y3 y4 y5 y6) (surmiselaw05_RulesClosed.l0 (k + 1) y0 y1 y2 y3 y4 y5 y6)) ∧ (∀ y0 y1 y2 y3 y4 y5 y6 y7 y8, LeO (surmiselaw05_RulesClosed.l1 k y0 y1 y2 y3 y4 y5 y6 y7 y8) (surmiselaw05_RulesClosed.l1 (k + 1) y0 y1 y2 y3 y4 y5 y6 y7 y8)) ∧ (∀ y0 y1 y2 y3 y4 y5 y6 y7 y8, LeO (surmiselaw05_RulesClosed.l2 k y0 y1 y2 y3 y4 y5 y6 y7 y8) (surmiselaw05_RulesClosed.l2 (k + 1) y0 y1 y2 y3 y4 y5 y6 y7 y8))
 | 0 => ⟨fun _ _ _ _ _ _ _ r h => by simp [surmiselaw05_RulesClosed.j0] at h, fun _ _ _ _ _ _ _ r h => by simp [surmiselaw05_RulesClosed.l0] at h, fun _ _ _ _ _ _ _ _ _ r h => by simp [surmiselaw05_RulesClosed.l1] at h, fun _ _ _ _ _ _ _ _ _ r h => by simp [surmiselaw05_RulesClosed.l2] at h⟩
 | k + 1 => by
  obtain ⟨ih0, ih1, ih2, ih3⟩ := surmiselaw05_RulesClosed.mono_l k
  refine ⟨?_, ?_, ?_, ?_⟩
  ·
   intro y0 y1 y2 y3 y4 y5 y6
   unfold surmiselaw05_RulesClosed.j0
   repeat' first
   | (with_reducible exact ih0 _ _ _ _ _ _ _)
   | (with_reducible exact ih1 _ _ _ _ _ _ _)
   | (with_reducible exact ih2 _ _ _ _ _ _ _ _ _)
   | (with_reducible exact ih3 _ _ _ _ _ _ _ _ _)
   | (with_reducible exact rules_Dead.mono _ _ _ _ _)
   | (with_reducible exact rules_Reach.mono _ _ _ _ _)
   | (with_reducible exact surmiselaw05_awake.mono _)
   | (with_reducible exact surmiseref05_For.mono _ _ _ _ _ _ _)
   | (with_reducible exact surmiseref05_To.mono _ _ _ _ _ _ _)
   | (with_reducible exact LeO.refl _)
   | (with_reducible exact LeO.none _)
   | (with_reducible refine LeO.ite ?_ ?_)
   | (with_reducible refine LeO.bind ?_ (fun _ => ?_))
   | exact ih0 _ _ _ _ _ _ _
   | exact ih1 _ _ _ _ _ _ _
   | exact ih2 _ _ _ _ _ _ _ _ _
   | exact ih3 _ _ _ _ _ _ _ _ _
   | exact rules_Dead.mono _ _ _ _ _
   | exact rules_Reach.mono _ _ _ _ _
   | exact surmiselaw05_awake.mono _
   | exact surmiseref05_For.mono _ _ _ _ _ _ _
   | exact surmiseref05_To.mono _ _ _ _ _ _ _
   | exact LeO.none _
   | refine LeO.ite ?_ ?_
   | refine LeO.bind ?_ (fun _ => ?_)
  ·
   intro y0 y1 y2 y3 y4 y5 y6
   unfold surmiselaw05_RulesClosed.l0
   repeat' first
   | (with_reducible exact ih0 _ _ _ _ _ _ _)
   | (with_reducible exact ih1 _ _ _ _ _ _ _)
   | (with_reducible exact ih2 _ _ _ _ _ _ _ _ _)
   | (with_reducible exact ih3 _ _ _ _ _ _ _ _ _)
   | (with_reducible exact rules_Dead.mono _ _ _ _ _)
   | (with_reducible exact rules_Reach.mono _ _ _ _ _)
   | (with_reducible exact surmiselaw05_awake.mono _)
   | (with_reducible exact surmiseref05_For.mono _ _ _ _ _ _ _)
   | (with_reducible exact surmiseref05_To.mono _ _ _ _ _ _ _)
   | (with_reducible exact LeO.refl _)
   | (with_reducible exact LeO.none _)
   | (with_reducible refine LeO.ite ?_ ?_)
   | (with_reducible refine LeO.bind ?_ (fun _ => ?_))
   | exact ih0 _ _ _ _ _ _ _
   | exact ih1 _ _ _ _ _ _ _
   | exact ih2 _ _ _ _ _ _ _ _ _
   | exact ih3 _ _ _ _ _ _ _ _ _
   | exact rules_Dead.mono _ _ _ _ _
   | exact rules_Reach.mono _ _ _ _ _
   | exact surmiselaw05_awake.mono _
   | exact surmiseref05_For.mono _ _ _ _ _ _ _
   | exact surmiseref05_To.mono _ _ _ _ _ _ _
   | exact LeO.none _
   | refine LeO.ite ?_ ?_
   | refine LeO.bind ?_ (fun _ => ?_)
  ·
   intro y0 y1 y2 y3 y4 y5 y6 y7 y8
   unfold surmiselaw05_RulesClosed.l1
   repeat' first
   | (with_reducible exact ih0 _ _ _ _ _ _ _)
   | (with_reducible exact ih1 _ _ _ _ _ _ _)
   | (with_reducible exact ih2 _ _ _ _ _ _ _ _ _)
   | (with_reducible exact ih3 _ _ _ _ _ _ _ _ _)
   | (with_reducible exact rules_Dead.mono _ _ _ _ _)
   | (with_reducible exact rules_Reach.mono _ _ _ _ _)
   | (with_reducible exact surmiselaw05_awake.mono _)
   | (with_reducible exact surmiseref05_For.mono _ _ _ _ _ _ _)
   | (with_reducible exact surmiseref05_To.mono _ _ _ _ _ _ _)
   | (with_reducible exact LeO.refl _)
   | (with_reducible exact LeO.none _)
   | (with_reducible refine LeO.ite ?_ ?_)
   | (with_reducible refine LeO.bind ?_ (fun _ => ?_))
   | exact ih0 _ _ _ _ _ _ _
   | exact ih1 _ _ _ _ _ _ _
   | exact ih2 _ _ _ _ _ _ _ _ _
   | exact ih3 _ _ _ _ _ _ _ _ _
   | exact rules_Dead.mono _ _ _ _ _
   | exact rules_Reach.mono _ _ _ _ _
   | exact surmiselaw05_awake.mono _
   | exact surmiseref05_For.mono _ _ _ _ _ _ _
   | exact surmiseref05_To.mono _ _ _ _ _ _ _
   | exact LeO.none _
   | refine LeO.ite ?_ ?_
   | refine LeO.bind ?_ (fun _ => ?_)
  ·
   intro y0 y1 y2 y3 y4 y5 y6 y7 y8
   unfold surmiselaw05_RulesClosed.l2
   repeat' first
   | (with_reducible exact ih0 _ _ _ _ _ _ _)
   | (with_reducible exact ih1 _ _ _ _ _ _ _)
   | (with_reducible exact ih2 _ _ _ _ _ _ _ _ _)
   | (with_reducible exact ih3 _ _ _ _ _ _ _ _ _)
   | (with_reducible exact rules_Dead.mono _ _ _ _ _)
   | (with_reducible exact rules_Reach.mono _ _ _ _ _)
   | (with_reducible exact surmiselaw05_awake.mono _)
   | (with_reducible exact surmiseref05_For.mono _ _ _ _ _ _ _)
   | (with_reducible exact surmiseref05_To.mono _ _ _ _ _ _ _)
   | (with_reducible exact LeO.refl _)
   | (with_reducible exact LeO.none _)
   | (with_reducible refine LeO.ite ?_ ?_)
   | (with_reducible refine LeO.bind ?_ (fun _ => ?_))
   | exact ih0 _ _ _ _ _ _ _
   | exact ih1 _ _ _ _ _ _ _
   | exact ih2 _ _ _ _ _ _ _ _ _
   | exact ih3 _ _ _ _ _ _ _ _ _
   | exact rules_Dead.mono _ _ _ _ _
   | exact rules_Reach.mono _ _ _ _ _
   | exact surmiselaw05_awake.mono _
   | exact surmiseref05_For.mono _ _ _ _ _ _ _
   | exact surmiseref05_To.mono _ _ _ _ _ _ _
   | exact LeO.none _
   | refine LeO.ite ?_ ?_
   | refine LeO.bind ?_ (fun _ => ?_)
theorem surmiselaw05_RulesClosed.mono : ∀ a0 a1 a2 a3 k, LeO (surmiselaw05_RulesClosed.f k a0 a1 a2 a3) (surmiselaw05_RulesClosed.f (k + 1) a0 a1 a2 a3) := by
 intro a0 a1 a2 a3 k
 obtain ⟨ih0, ih1, ih2, ih3⟩ := surmiselaw05_RulesClosed.mono_l k
 unfold surmiselaw05_RulesClosed.f
 repeat' first
   | (with_reducible exact ih0 _ _ _ _ _ _ _)
   | (with_reducible exact ih1 _ _ _ _ _ _ _)
   | (with_reducible exact ih2 _ _ _ _ _ _ _ _ _)
   | (with_reducible exact ih3 _ _ _ _ _ _ _ _ _)
   | (with_reducible exact rules_Dead.mono _ _ _ _ _)
   | (with_reducible exact rules_Reach.mono _ _ _ _ _)
   | (with_reducible exact surmiselaw05_awake.mono _)
   | (with_reducible exact surmiseref05_For.mono _ _ _ _ _ _ _)
   | (with_reducible exact surmiseref05_To.mono _ _ _ _ _ _ _)
   | (with_reducible exact LeO.refl _)
   | (with_reducible exact LeO.none _)
   | (with_reducible refine LeO.ite ?_ ?_)
   | (with_reducible refine LeO.bind ?_ (fun _ => ?_))
   | exact ih0 _ _ _ _ _ _ _
   | exact ih1 _ _ _ _ _ _ _
   | exact ih2 _ _ _ _ _ _ _ _ _
   | exact ih3 _ _ _ _ _ _ _ _ _
   | exact rules_Dead.mono _ _ _ _ _
   | exact rules_Reach.mono _ _ _ _ _
   | exact surmiselaw05_awake.mono _
   | exact surmiseref05_For.mono _ _ _ _ _ _ _
   | exact surmiseref05_To.mono _ _ _ _ _ _ _
   | exact LeO.none _
   | refine LeO.ite ?_ ?_
   | refine LeO.bind ?_ (fun _ => ?_)
set_option maxHeartbeats 8000000 in
set_option maxRecDepth 100000 in
theorem surmiselaw05_RulesClosed.calls (k : Nat) (A0_0 : Option Addr) (c0_0 : Nat) (l0_0 : List ByteArray) (A0_1 : Option Addr) (c0_1 : Nat) (l0_1 : List ByteArray) (A0_2 : Option Addr) (c0_2 : Nat) (l0_2 : List Int) (A0_3 : Option Addr) (c0_3 : Nat) (l0_3 : List (S38)) (r : Bool) (w : World) (hr0_0 : Kd.C Kd.string w A0_0 l0_0.length l0_0) (hc0_0 : l0_0.length ≤ c0_0) (hr0_1 : Kd.C Kd.string w A0_1 l0_1.length l0_1) (hc0_1 : l0_1.length ≤ c0_1) (hr0_2 : Kd.C (Kd.int .i64) w A0_2 l0_2.length l0_2) (hc0_2 : l0_2.length ≤ c0_2) (hr0_3 : Kd.C k38 w A0_3 l0_3.length l0_3) (hc0_3 : l0_3.length ≤ c0_3) (h : surmiselaw05_RulesClosed.f k l0_0 l0_1 l0_2 l0_3 = some r) :
  Calls Try.prog 7 #[.agg #[.slice A0_0 l0_0.length c0_0, .slice A0_1 l0_1.length c0_1, .slice A0_2 l0_2.length c0_2, .slice A0_3 l0_3.length c0_3]] w fun e w' => e = .returned (.bool r) ∧ Below w.heap.size w w' := by
 have hu26 := Try.underlying26
 have hu38 := Try.underlying38
 have HR0_0 := Am hr0_0
 have HC0_0 := Am hc0_0
 clear hr0_0 hc0_0
 have HR0_1 := Am hr0_1
 have HC0_1 := Am hc0_1
 clear hr0_1 hc0_1
 have HR0_2 := Am hr0_2
 have HC0_2 := Am hc0_2
 clear hr0_2 hc0_2
 have HR0_3 := Am hr0_3
 have HC0_3 := Am hc0_3
 clear hr0_3 hc0_3
 have HB := Am (Below.refl w.heap.size w)
 have H : ((rules_Reach.f k l0_0 l0_1 l0_2 l0_3).bind fun t581 => ((rules_Dead.f k l0_0 l0_1 l0_2 l0_3).bind fun t584 => ((surmiselaw05_awake.f k).bind fun t587 => (if t587 = true then (surmiselaw05_RulesClosed.j0 k t581 t584 ((t581.length : Int) == 0) l0_0 l0_1 l0_2 l0_3) else (surmiselaw05_RulesClosed.j0 k t581 t584 true l0_0 l0_1 l0_2 l0_3))))) = some r := h
 clear h
 obtain ⟨t581, A20, H⟩ := Option.bind_eq_some_iff.mp H
 try dsimp only at H
 have A2 := Am A20
 clear A20
 obtain ⟨t584, A30, H⟩ := Option.bind_eq_some_iff.mp H
 replace H : ((surmiselaw05_awake.f k).bind fun t587 => (if t587 = true then (surmiselaw05_RulesClosed.j0 k t581 t584 ((t581.length : Int) == 0) l0_0 l0_1 l0_2 l0_3) else (surmiselaw05_RulesClosed.j0 k t581 t584 true l0_0 l0_1 l0_2 l0_3))) = some r := H
 have A3 := Am A30
 clear A30
 have HC4 := Am H
 clear H
 go_enter Try.func7, Try.ntmps7
 try go_wp2_with (first | ((with_reducible refine gate_dst (N := 1) rfl ?_); (try (refine gate_guard (by rfl) ?_; dsimp only)); refine bxe (N := 1) (cs := #[.slice A0_0 l0_0.length c0_0, .slice A0_1 l0_1.length c0_1, .slice A0_2 l0_2.length c0_2, .slice A0_3 l0_3.length c0_3]) (t := 26) ?_; intro gb580 hg w5 hbox hb; have n0_ := Am (below_step (bl) hb); have n1_ := Am (hbox); have n2_ := Am ((gE hg : w.heap.size ≤ gb580)); have n3_ := Am ((gE hg : w.heap.size ≤ gb580)); clear HB; have HB := n0_; have BK580 := n1_; have GW580 := n2_; have GE580 := n3_; clear n0_ n1_ n2_ n3_; clear hb hbox hg))
 have n0_ := Am (blk_drew BK580.out)
 have n1_ := Am (below_drew1 HB.out)
 clear BK580
 clear HB
 have BK580 := n0_
 have HB := n1_
 clear n0_ n1_
 refine start_ (n := 6) (S := fun w' => w'.cell? ⟨gb580, 0, none⟩ = some (.slice A0_0 l0_0.length c0_0) ∧ w'.cell? ⟨gb580, 1, none⟩ = some (.slice A0_1 l0_1.length c0_1) ∧ w'.cell? ⟨gb580, 2, none⟩ = some (.slice A0_2 l0_2.length c0_2) ∧ w'.cell? ⟨gb580, 3, none⟩ = some (.slice A0_3 l0_3.length c0_3)) (ds := []) #[false, false, false, false, false, false] (by kernel_rfl) rfl rfl ⟨(blk_cell BK580.out 0).trans rfl, (blk_cell BK580.out 1).trans rfl, (blk_cell BK580.out 2).trans rfl, (blk_cell BK580.out 3).trans rfl⟩ (fun hHeld => ?_)
 generalize w5.drew = w6 at BK580 HB hHeld ⊢
 refine take_ (i := 0) (N := some 9) (v := ?_) (a' := ?_) #[true, false, false, false, false, false] rfl rfl (by kernel_rfl) (fun _ _ _ h => h) (Or.inl ⟨by rfl, ?_⟩) hHeld ?_ ?_
 rotate_left
 ·
  rintro w' ⟨s0, s1, s2, s3⟩
  go_simp
  with_reducible rfl
 rotate_left
 ·
  simp only [Act.put, List.setIfInBounds_toArray, List.set_cons_zero, List.set_cons_succ, i64_w, i32_w]
  rfl
 refine take_ (i := 2) (N := some 11) (v := ?_) (a' := ?_) #[true, false, true, false, false, false] rfl rfl (by kernel_rfl) (fun _ _ _ h => h) (Or.inl ⟨by rfl, ?_⟩) hHeld ?_ ?_
 rotate_left
 ·
  rintro w' ⟨s0, s1, s2, s3⟩
  go_simp
  with_reducible rfl
 rotate_left
 ·
  simp only [Act.put, List.setIfInBounds_toArray, List.set_cons_zero, List.set_cons_succ, i64_w, i32_w]
  rfl
 refine one_ (i := 1) (N := some 10) #[true, true, true, false, false, false] rfl rfl (by kernel_rfl) (by decide) (fun K hK => ?_)
 refine goes_ Try.func16 (by kernel_rfl) rfl #[.agg #[.slice A0_0 l0_0.length c0_0, .slice A0_1 l0_1.length c0_1, .slice A0_2 l0_2.length c0_2, .slice A0_3 l0_3.length c0_3]] (by rfl) rfl rfl aq ?_
 with_reducible refine (rules_Reach.calls k _ _ l0_0 _ _ l0_1 _ _ l0_2 _ _ l0_3 t581 _ ?side1 ?side2 ?side3 ?side4 ?side5 ?side6 ?side7 ?side8 A2.out).mono ?_
 (case side1 => exact kC HR0_0)
 (case side2 => exact HC0_0.out)
 (case side3 => exact kC HR0_1)
 (case side4 => exact HC0_1.out)
 (case side5 => exact kC HR0_2)
 (case side6 => exact HC0_2.out)
 (case side7 => exact kC HR0_3)
 (case side8 => exact HC0_3.out)
 rintro e w7 ⟨v582, rfl, ho0, hb⟩
 refine ⟨_, rfl, ?_⟩
 have n0_ := Am (Kd.R_lower ho0 (below_size (bs)))
 have n1_ := Am (blk_below (kB BK580) hb)
 have n2_ := Am (below_step (bs) hb)
 clear BK580
 clear HB
 have HO583 := n0_
 have BK580 := n1_
 have HB := n2_
 clear n0_ n1_ n2_
 (try clear hb)
 (try clear hb2)
 (try clear hk)
 (try clear hi)
 (try clear ho0)
 refine hK.out _ _ ⟨(blk_cell BK580.out 0).trans rfl, (blk_cell BK580.out 1).trans rfl, (blk_cell BK580.out 2).trans rfl, (blk_cell BK580.out 3).trans rfl⟩ (fun hHeld => ?_)
 clear hK K
 refine norm_ (a' := ?_) ?_ ?_
 rotate_left
 ·
  show Act.put _ (some 10) _ = _
  simp only [Act.put, List.setIfInBounds_toArray, List.set_cons_zero, List.set_cons_succ, i64_w, i32_w]
  rfl
 refine one_ (i := 3) (N := some 12) #[true, true, true, true, false, false] rfl rfl (by kernel_rfl) (by decide) (fun K hK => ?_)
 refine goes_ Try.func17 (by kernel_rfl) rfl #[.agg #[.slice A0_0 l0_0.length c0_0, .slice A0_1 l0_1.length c0_1, .slice A0_2 l0_2.length c0_2, .slice A0_3 l0_3.length c0_3]] (by rfl) rfl rfl aq ?_
 with_reducible refine (rules_Dead.calls k _ _ l0_0 _ _ l0_1 _ _ l0_2 _ _ l0_3 t584 _ ?side1 ?side2 ?side3 ?side4 ?side5 ?side6 ?side7 ?side8 A3.out).mono ?_
 (case side1 => exact kC HR0_0)
 (case side2 => exact HC0_0.out)
 (case side3 => exact kC HR0_1)
 (case side4 => exact HC0_1.out)
 (case side5 => exact kC HR0_2)
 (case side6 => exact HC0_2.out)
 (case side7 => exact kC HR0_3)
 (case side8 => exact HC0_3.out)
 rintro e w8 ⟨v585, rfl, ho0, hb⟩
 refine ⟨_, rfl, ?_⟩
 have n0_ := Am (Kd.R_below (kR HO583) hb)
 have n1_ := Am (Kd.R_lower ho0 (below_size (bs)))
 have n2_ := Am (blk_below (kB BK580) hb)
 have n3_ := Am (below_step (bs) hb)
 clear HO583
 clear BK580
 clear HB
 have HO583 := n0_
 have HO586 := n1_
 have BK580 := n2_
 have HB := n3_
 clear n0_ n1_ n2_ n3_
 (try clear hb)
 (try clear hb2)
 (try clear hk)
 (try clear hi)
 (try clear ho0)
 refine hK.out _ _ ⟨(blk_cell BK580.out 0).trans rfl, (blk_cell BK580.out 1).trans rfl, (blk_cell BK580.out 2).trans rfl, (blk_cell BK580.out 3).trans rfl⟩ (fun hHeld => ?_)
 clear hK K
 refine norm_ (a' := ?_) ?_ ?_
 rotate_left
 ·
  show Act.put _ (some 12) _ = _
  simp only [Act.put, List.setIfInBounds_toArray, List.set_cons_zero, List.set_cons_succ, i64_w, i32_w]
  rfl
 refine pure_ (i := 4) (N := some 3) (v := ?_) (a' := ?_) #[true, true, true, true, true, false] rfl rfl (by kernel_rfl) (fun _ _ _ h => h) (Or.inl ⟨by rfl, ?_⟩) ?_ ?_
 rotate_left
 ·
  intro w'
  go_simp
  with_reducible rfl
 rotate_left
 ·
  simp only [Act.put, List.setIfInBounds_toArray, List.set_cons_zero, List.set_cons_succ, i64_w, i32_w]
  rfl
 refine pure_ (i := 5) (N := some 4) (v := ?_) (a' := ?_) #[true, true, true, true, true, true] rfl rfl (by kernel_rfl) (fun _ _ _ h => h) (Or.inl ⟨by rfl, ?_⟩) ?_ ?_
 rotate_left
 ·
  intro w'
  go_simp
  with_reducible rfl
 rotate_left
 ·
  simp only [Act.put, List.setIfInBounds_toArray, List.set_cons_zero, List.set_cons_succ, i64_w, i32_w]
  rfl
 refine done_ (by kernel_rfl) ?_
 go_upto_region 2 with (fail)
 go_cut [19] (fun v19 wc => ∃ (kq : Nat) (x19_3 : Bool), v19 = .bool x19_3 ∧ Aside0 (surmiselaw05_RulesClosed.j0 kq t581 t584 x19_3 l0_0 l0_1 l0_2 l0_3 = some r) ∧ Aside0 (kq ≤ k) ∧ Aside0 (Kd.R Kd.bool 4 wc w.heap.size (fun _ => True) v582 t581) ∧ Aside0 (Kd.R (Kd.int .i64) 3 wc w.heap.size (fun _ => True) v585 t584) ∧ Aside0 (wc.heap[gb580]? = some (.cells #[(.slice A0_0 l0_0.length c0_0), (.slice A0_1 l0_1.length c0_1), (.slice A0_2 l0_2.length c0_2), (.slice A0_3 l0_3.length c0_3)] 26 (0, 0))) ∧ Aside0 (Below w.heap.size w wc))
 case first =>
  have H := HC4.out
  clear HC4
  obtain ⟨t587, A90, H⟩ := Option.bind_eq_some_iff.mp H
  replace H : (if t587 = true then (surmiselaw05_RulesClosed.j0 k t581 t584 ((t581.length : Int) == 0) l0_0 l0_1 l0_2 l0_3) else (surmiselaw05_RulesClosed.j0 k t581 t584 true l0_0 l0_1 l0_2 l0_3)) = some r := H
  have A9 := Am A90
  clear A90
  by_cases c10 : t587 = true
  ·
   subst c10
   have H1 : (surmiselaw05_RulesClosed.j0 k t581 t584 ((t581.length : Int) == 0) l0_0 l0_1 l0_2 l0_3) = some r := by rw [if_pos rfl] at H; exact H
   clear H
   have H := H1
   clear H1
   have H' := Am H
   clear H
   go_wp2_with (first | ((with_reducible refine gate_callee (f := 9) rfl ?_); refine goesL_ (some 13) rfl rfl Try.func9 (by kernel_rfl) rfl #[] rfl aq ?_; (with_reducible refine (surmiselaw05_awake.calls k  true _ A9.out).mono ?_); rintro e w11 ⟨rfl, hb⟩; refine ⟨_, rfl, ?_⟩; have n0_ := Am (Kd.R_below (kR HO583) hb); have n1_ := Am (Kd.R_below (kR HO586) hb); have n2_ := Am (blk_below (kB BK580) hb); have n3_ := Am (below_step (bs) hb); clear HO583; clear HO586; clear BK580; clear HB; have HO583 := n0_; have HO586 := n1_; have BK580 := n2_; have HB := n3_; clear n0_ n1_ n2_ n3_; (try clear hb); (try clear hb2); (try clear hk); (try clear hi); obtain ⟨Ao12, co12, eo12⟩ := Kd.R_slice HO583.out; subst eo12))
   go_meet
   case rel => exact ⟨_, (((t581.length : Int) == 0)), rq, H', ⟨by first | omega | exact Nat.le_refl _⟩, ⟨kR HO583⟩, ⟨kR HO586⟩, ⟨kB BK580⟩, ⟨bs⟩⟩
  ·
   replace c10 := Bool.eq_false_iff.mpr c10
   subst c10
   have H1 : (surmiselaw05_RulesClosed.j0 k t581 t584 true l0_0 l0_1 l0_2 l0_3) = some r := by rw [if_neg (show ¬ (false = true) by decide)] at H; exact H
   clear H
   have H := H1
   clear H1
   have H' := Am H
   clear H
   go_wp2_with (first | ((with_reducible refine gate_callee (f := 9) rfl ?_); refine goesL_ (some 13) rfl rfl Try.func9 (by kernel_rfl) rfl #[] rfl aq ?_; (with_reducible refine (surmiselaw05_awake.calls k  false _ A9.out).mono ?_); rintro e w13 ⟨rfl, hb⟩; refine ⟨_, rfl, ?_⟩; have n0_ := Am (Kd.R_below (kR HO583) hb); have n1_ := Am (Kd.R_below (kR HO586) hb); have n2_ := Am (blk_below (kB BK580) hb); have n3_ := Am (below_step (bs) hb); clear HO583; clear HO586; clear BK580; clear HB; have HO583 := n0_; have HO586 := n1_; have BK580 := n2_; have HB := n3_; clear n0_ n1_ n2_ n3_; (try clear hb); (try clear hb2); (try clear hk); (try clear hi)))
   go_meet
   case rel => exact ⟨_, (true), rq, H', ⟨by first | omega | exact Nat.le_refl _⟩, ⟨kR HO583⟩, ⟨kR HO586⟩, ⟨kB BK580⟩, ⟨bs⟩⟩
 case rest =>
  clear HC4
  try clear c1
  try clear p2
  try clear c7
  try clear c9
  try clear c10
  obtain ⟨kq, x19_3, rfl, HA, HJ3, HO_3, HO_4, BK580, HB⟩ := hcut
  cases kq with
  | zero => exact absurd HA.out (by simp [surmiselaw05_RulesClosed.j0])
  | succ kj3 =>
   have H := HA.out
   clear HA
   simp only [surmiselaw05_RulesClosed.j0] at H
   by_cases c14 : x19_3 = true
   ·
    subst c14
    have H1 : ((surmiselaw05_awake.f kj3).bind fun t588 => (if t588 = true then (some ((t584.length : Int) == 0)) else (none))) = some r := by rw [if_pos rfl] at H; exact H
    clear H
    have H := H1
    clear H1
    obtain ⟨t588, A150, H⟩ := Option.bind_eq_some_iff.mp H
    replace H : (if t588 = true then (some ((t584.length : Int) == 0)) else (none)) = some r := H
    have A15 := Am A150
    clear A150
    by_cases c16 : t588 = true
    ·
     subst c16
     have H1 : (some ((t584.length : Int) == 0)) = some r := by rw [if_pos rfl] at H; exact H
     clear H
     have H := H1
     clear H1
     obtain rfl := Option.some.inj H
     go_wp2_with (first | ((with_reducible refine gate_callee (f := 9) rfl ?_); refine goesL_ (some 20) rfl rfl Try.func9 (by kernel_rfl) rfl #[] rfl aq ?_; (with_reducible refine (surmiselaw05_awake.calls kj3  true _ A15.out).mono ?_); rintro e w17 ⟨rfl, hb⟩; refine ⟨_, rfl, ?_⟩; have n0_ := Am (Kd.R_below (kR HO_3) hb); have n1_ := Am (Kd.R_below (kR HO_4) hb); have n2_ := Am (blk_below (kB BK580) hb); have n3_ := Am (below_step (bs) hb); clear HO_3; clear HO_4; clear BK580; clear HB; have HO_3 := n0_; have HO_4 := n1_; have BK580 := n2_; have HB := n3_; clear n0_ n1_ n2_ n3_; (try clear hb); (try clear hb2); (try clear hk); (try clear hi); obtain ⟨Ao18, co18, eo18⟩ := Kd.R_slice HO_4.out; subst eo18))
     go_ret
     exact ⟨xq, bs⟩
    ·
     replace c16 := Bool.eq_false_iff.mpr c16
     subst c16
     have H1 : (none) = some r := by rw [if_neg (show ¬ (false = true) by decide)] at H; exact H
     clear H
     have H := H1
     clear H1
     exact absurd H (by simp)
   ·
    replace c14 := Bool.eq_false_iff.mpr c14
    subst c14
    have H1 : (surmiselaw05_RulesClosed.l0 kj3 t581 t584 0 l0_0 l0_1 l0_2 l0_3) = some r := by rw [if_neg (show ¬ (false = true) by decide)] at H; exact H
    clear H
    have H := H1
    clear H1
    have H' := Am H
    clear H
    go_wp2
    go_loopg [5] kj3 (fun kq v5 w' => ∃ (x5_2 : Int), v5 = .int .i64 x5_2 ∧ Aside0 (surmiselaw05_RulesClosed.l0 kq t581 t584 x5_2 l0_0 l0_1 l0_2 l0_3 = some r) ∧ Aside0 (kq ≤ kj3) ∧ Aside0 (Kd.R Kd.bool 4 w' w.heap.size (fun _ => True) v582 t581) ∧ Aside0 (Kd.R (Kd.int .i64) 3 w' w.heap.size (fun _ => True) v585 t584) ∧ Aside0 (w'.heap[gb580]? = some (.cells #[(.slice A0_0 l0_0.length c0_0), (.slice A0_1 l0_1.length c0_1), (.slice A0_2 l0_2.length c0_2), (.slice A0_3 l0_3.length c0_3)] 26 (0, 0))) ∧ Aside0 (Below w.heap.size w w'))
    case atStart => exact ⟨(0), rq, H', ⟨Nat.le_refl _⟩, ⟨kR HO_3⟩, ⟨kR HO_4⟩, ⟨kB BK580⟩, ⟨bs⟩⟩
    case round =>
     clear H'
     try clear c1
     try clear p2
     try clear c7
     try clear c9
     try clear c10
     try clear c14
     try clear c16
     try clear c17
     try clear p2
     obtain ⟨x5_2, rfl, HA, HK2, HO_3, HO_4, BK580, HB⟩ := hrel
     cases gk with
     | zero => exact absurd HA.out (by simp [surmiselaw05_RulesClosed.l0])
     | succ k2 =>
      have H := HA.out
      clear HA
      simp only [surmiselaw05_RulesClosed.l0] at H
      by_cases c19 : x5_2 < (l0_3.length : Int)
      ·
       rw [if_pos c19] at H
       have c19b0 : decide (x5_2 < (l0_3.length : Int)) = true := decide_eq_true c19
       clear c19
       have H' := Am H
       clear H
       have hcz20_0 := cz0 BK580.out
       have hcz20_1 := cz1 BK580.out
       have hcz20_2 := cz2 BK580.out
       have hcz20_3 := cz3 BK580.out
       have hfz20_0 := fz BK580 0
       have hfz20_1 := fz BK580 1
       have hfz20_2 := fz BK580 2
       have hfz20_3 := fz BK580 3
       go_wp2
       go_loopg [6, 7] k2 (fun kq v6 v7 w' => ∃ (x6_3 : Bool) (x7_3 : Int), v6 = .bool x6_3 ∧ v7 = .int .i64 x7_3 ∧ Aside0 (surmiselaw05_RulesClosed.l1 kq t581 t584 x5_2 x6_3 x7_3 l0_0 l0_1 l0_2 l0_3 = some r) ∧ Aside0 (kq ≤ k2) ∧ Aside0 (Kd.R Kd.bool 4 w' w.heap.size (fun _ => True) v582 t581) ∧ Aside0 (Kd.R (Kd.int .i64) 3 w' w.heap.size (fun _ => True) v585 t584) ∧ Aside0 (w'.heap[gb580]? = some (.cells #[(.slice A0_0 l0_0.length c0_0), (.slice A0_1 l0_1.length c0_1), (.slice A0_2 l0_2.length c0_2), (.slice A0_3 l0_3.length c0_3)] 26 (0, 0))) ∧ Aside0 (Below w.heap.size w w'))
       case atStart => exact ⟨(false), (0), rq, rq, H', ⟨Nat.le_refl _⟩, ⟨kR HO_3⟩, ⟨kR HO_4⟩, ⟨kB BK580⟩, ⟨bs⟩⟩
       case round =>
        clear H'
        try clear c1
        try clear p2
        try clear c7
        try clear c9
        try clear c10
        try clear c14
        try clear c16
        try clear c17
        try clear c19
        try clear c19b0
        try clear hcz20_0
        try clear hcz20_1
        try clear hcz20_2
        try clear hcz20_3
        try clear hfz20_0
        try clear hfz20_1
        try clear hfz20_2
        try clear hfz20_3
        try clear p2
        obtain ⟨x6_3, x7_3, rfl, rfl, HA, HK3, HO_3, HO_4, BK580, HB⟩ := hrel
        cases gk with
        | zero => exact absurd HA.out (by simp [surmiselaw05_RulesClosed.l1])
        | succ k3 =>
         have H := HA.out
         clear HA
         simp only [surmiselaw05_RulesClosed.l1] at H
         by_cases c21 : x7_3 < (t584.length : Int)
         ·
          rw [if_pos c21] at H
          have c21b0 : decide (x7_3 < (t584.length : Int)) = true := decide_eq_true c21
          clear c21
          by_cases c22 : x6_3 = true
          ·
           subst c22
           have H1 : (surmiselaw05_RulesClosed.l1 k3 t581 t584 x5_2 true (wrap64 (x7_3 + 1)) l0_0 l0_1 l0_2 l0_3) = some r := by rw [if_pos rfl] at H; exact H
           clear H
           have H := H1
           clear H1
           have H' := Am H
           clear H
           obtain ⟨Ao23, co23, eo23⟩ := Kd.R_slice HO_4.out
           subst eo23
           go_wp2
           go_roundg k3
           case measure => have := HJ3.out; have := HK2.out; have := HK3.out; omega
           case rel => exact ⟨(true), (wrap64 (x7_3 + 1)), rq, rq, H', ⟨by have := HJ3.out; have := HK2.out; have := HK3.out; omega⟩, ⟨kR HO_3⟩, ⟨kR HO_4⟩, ⟨kB BK580⟩, ⟨bs⟩⟩
          ·
           replace c22 := Bool.eq_false_iff.mpr c22
           subst c22
           have H1 : (if 0 ≤ x7_3 then (surmiselaw05_RulesClosed.l1 k3 t581 t584 x5_2 ((rd t584 x7_3) == x5_2) (wrap64 (x7_3 + 1)) l0_0 l0_1 l0_2 l0_3) else (none)) = some r := by rw [if_neg (show ¬ (false = true) by decide)] at H; exact H
           clear H
           have H := H1
           clear H1
           by_cases c24 : 0 ≤ x7_3
           ·
            rw [if_pos c24] at H
            have c24b0 : decide (0 ≤ x7_3) = true := decide_eq_true c24
            clear c24
            have H' := Am H
            clear H
            obtain ⟨Ao25, co25, eo25⟩ := Kd.R_slice HO_4.out
            subst eo25
            have p590 : 0 ≤ (x7_3 : Int) := of_decide_eq_true az
            have q590 : x7_3 < (t584.length : Int) := of_decide_eq_true az
            obtain ⟨ad590, e590, hx590_0⟩ := Kd.at_int (Kd.R_reads' HO_4.out).2.2 x7_3 p590 q590
            cases e590
            replace p590 := eq_true p590
            replace q590 := eq_true q590
            go_wp2
            go_roundg k3
            case measure => have := HJ3.out; have := HK2.out; have := HK3.out; omega
            case rel => exact ⟨(((rd t584 x7_3) == x5_2)), (wrap64 (x7_3 + 1)), rq, rq, H', ⟨by have := HJ3.out; have := HK2.out; have := HK3.out; omega⟩, ⟨kR HO_3⟩, ⟨kR HO_4⟩, ⟨kB BK580⟩, ⟨bs⟩⟩
           ·
            rw [if_neg c24] at H
            exact absurd H (by simp)
         ·
          rw [if_neg c21] at H
          have c21b0 : decide (x7_3 < (t584.length : Int)) = false := decide_eq_false c21
          clear c21
          have H' := Am H
          clear H
          obtain ⟨Ao26, co26, eo26⟩ := Kd.R_slice HO_4.out
          subst eo26
          go_wp2
          go_loopg [8] k3 (fun kq v8 w' => ∃ (x8_4 : Int), v8 = .int .i64 x8_4 ∧ Aside0 (surmiselaw05_RulesClosed.l2 kq t581 t584 x5_2 x6_3 x8_4 l0_0 l0_1 l0_2 l0_3 = some r) ∧ Aside0 (kq ≤ k3) ∧ Aside0 (Kd.R Kd.bool 4 w' w.heap.size (fun _ => True) v582 t581) ∧ Aside0 (Kd.R (Kd.int .i64) 3 w' w.heap.size (fun _ => True) (.slice Ao26 t584.length co26) t584) ∧ Aside0 (w'.heap[gb580]? = some (.cells #[(.slice A0_0 l0_0.length c0_0), (.slice A0_1 l0_1.length c0_1), (.slice A0_2 l0_2.length c0_2), (.slice A0_3 l0_3.length c0_3)] 26 (0, 0))) ∧ Aside0 (Below w.heap.size w w'))
          case atStart => exact ⟨(0), rq, H', ⟨Nat.le_refl _⟩, ⟨kR HO_3⟩, ⟨kR HO_4⟩, ⟨kB BK580⟩, ⟨bs⟩⟩
          case round =>
           clear H'
           try clear c1
           try clear c2
           try clear p2
           try clear p5
           try clear q5
           try clear hx5
           try clear p6
           try clear c7
           try clear c9
           try clear c10
           try clear c14
           try clear c16
           try clear c17
           try clear c19
           try clear c19b0
           try clear c21
           try clear c21b0
           try clear c22
           try clear c24
           try clear c24b0
           try clear hcz20_0
           try clear hcz20_1
           try clear hcz20_2
           try clear hcz20_3
           try clear hfz20_0
           try clear hfz20_1
           try clear hfz20_2
           try clear hfz20_3
           try clear hx590_0
           try clear p2
           try clear p590
           try clear q590
           obtain ⟨x8_4, rfl, HA, HK4, HO_3, HO_4, BK580, HB⟩ := hrel
           cases gk with
           | zero => exact absurd HA.out (by simp [surmiselaw05_RulesClosed.l2])
           | succ k4 =>
            have H := HA.out
            clear HA
            simp only [surmiselaw05_RulesClosed.l2] at H
            by_cases c27 : x8_4 < (t581.length : Int)
            ·
             rw [if_pos c27] at H
             have c27b0 : decide (x8_4 < (t581.length : Int)) = true := decide_eq_true c27
             clear c27
             by_cases c28 : 0 ≤ x8_4
             ·
              rw [if_pos c28] at H
              have c28b0 : decide (0 ≤ x8_4) = true := decide_eq_true c28
              clear c28
              obtain ⟨bq29, hbq29⟩ : ∃ b_ : Bool, b_ = (rdOf false t581 x8_4) := ⟨_, rfl⟩
              replace H : (if bq29 = true then ((surmiseref05_For.f k4 l0_0 l0_1 l0_2 l0_3 x5_2 x8_4).bind fun t592 => (if t592 = true then (if x6_3 = true then (none) else (if 0 ≤ x5_2 then (if x5_2 < (l0_3.length : Int) then ((surmiseref05_To.f k4 ((rd_T38 l0_3 x5_2).f0) ((rd_T38 l0_3 x5_2).f1) ((rd_T38 l0_3 x5_2).f2) ((rd_T38 l0_3 x5_2).f3) ((rd_T38 l0_3 x5_2).f4) x8_4).bind fun t594 => (if 0 ≤ t594 then (if t594 < (t581.length : Int) then (if rdOf false t581 t594 = true then (surmiselaw05_RulesClosed.l2 k4 t581 t584 x5_2 x6_3 (wrap64 (x8_4 + 1)) l0_0 l0_1 l0_2 l0_3) else (none)) else (none)) else (none))) else (none)) else (none))) else (surmiselaw05_RulesClosed.l2 k4 t581 t584 x5_2 x6_3 (wrap64 (x8_4 + 1)) l0_0 l0_1 l0_2 l0_3))) else (surmiselaw05_RulesClosed.l2 k4 t581 t584 x5_2 x6_3 (wrap64 (x8_4 + 1)) l0_0 l0_1 l0_2 l0_3)) = some r := by rw [← hbq29] at H; exact H
              have Nbq29 := Am hbq29
              clear hbq29
              by_cases c30 : bq29 = true
              ·
               subst c30
               have H1 : ((surmiseref05_For.f k4 l0_0 l0_1 l0_2 l0_3 x5_2 x8_4).bind fun t592 => (if t592 = true then (if x6_3 = true then (none) else (if 0 ≤ x5_2 then (if x5_2 < (l0_3.length : Int) then ((surmiseref05_To.f k4 ((rd_T38 l0_3 x5_2).f0) ((rd_T38 l0_3 x5_2).f1) ((rd_T38 l0_3 x5_2).f2) ((rd_T38 l0_3 x5_2).f3) ((rd_T38 l0_3 x5_2).f4) x8_4).bind fun t594 => (if 0 ≤ t594 then (if t594 < (t581.length : Int) then (if rdOf false t581 t594 = true then (surmiselaw05_RulesClosed.l2 k4 t581 t584 x5_2 x6_3 (wrap64 (x8_4 + 1)) l0_0 l0_1 l0_2 l0_3) else (none)) else (none)) else (none))) else (none)) else (none))) else (surmiselaw05_RulesClosed.l2 k4 t581 t584 x5_2 x6_3 (wrap64 (x8_4 + 1)) l0_0 l0_1 l0_2 l0_3))) = some r := by rw [if_pos rfl] at H; exact H
               clear H
               have H := H1
               clear H1
               obtain ⟨t592, A310, H⟩ := Option.bind_eq_some_iff.mp H
               try dsimp only at H
               have A31 := Am A310
               clear A310
               by_cases c32 : t592 = true
               ·
                subst c32
                have H1 : (if x6_3 = true then (none) else (if 0 ≤ x5_2 then (if x5_2 < (l0_3.length : Int) then ((surmiseref05_To.f k4 ((rd_T38 l0_3 x5_2).f0) ((rd_T38 l0_3 x5_2).f1) ((rd_T38 l0_3 x5_2).f2) ((rd_T38 l0_3 x5_2).f3) ((rd_T38 l0_3 x5_2).f4) x8_4).bind fun t594 => (if 0 ≤ t594 then (if t594 < (t581.length : Int) then (if rdOf false t581 t594 = true then (surmiselaw05_RulesClosed.l2 k4 t581 t584 x5_2 x6_3 (wrap64 (x8_4 + 1)) l0_0 l0_1 l0_2 l0_3) else (none)) else (none)) else (none))) else (none)) else (none))) = some r := by rw [if_pos rfl] at H; exact H
                clear H
                have H := H1
                clear H1
                by_cases c33 : x6_3 = true
                ·
                 subst c33
                 have H1 : (none) = some r := by rw [if_pos rfl] at H; exact H
                 clear H
                 have H := H1
                 clear H1
                 exact absurd H (by simp)
                ·
                 replace c33 := Bool.eq_false_iff.mpr c33
                 subst c33
                 have H1 : (if 0 ≤ x5_2 then (if x5_2 < (l0_3.length : Int) then ((surmiseref05_To.f k4 ((rd_T38 l0_3 x5_2).f0) ((rd_T38 l0_3 x5_2).f1) ((rd_T38 l0_3 x5_2).f2) ((rd_T38 l0_3 x5_2).f3) ((rd_T38 l0_3 x5_2).f4) x8_4).bind fun t594 => (if 0 ≤ t594 then (if t594 < (t581.length : Int) then (if rdOf false t581 t594 = true then (surmiselaw05_RulesClosed.l2 k4 t581 t584 x5_2 false (wrap64 (x8_4 + 1)) l0_0 l0_1 l0_2 l0_3) else (none)) else (none)) else (none))) else (none)) else (none)) = some r := by rw [if_neg (show ¬ (false = true) by decide)] at H; exact H
                 clear H
                 have H := H1
                 clear H1
                 by_cases c34 : 0 ≤ x5_2
                 ·
                  rw [if_pos c34] at H
                  have c34b0 : decide (0 ≤ x5_2) = true := decide_eq_true c34
                  clear c34
                  by_cases c35 : x5_2 < (l0_3.length : Int)
                  ·
                   rw [if_pos c35] at H
                   have c35b0 : decide (x5_2 < (l0_3.length : Int)) = true := decide_eq_true c35
                   clear c35
                   obtain ⟨t594, A360, H⟩ := Option.bind_eq_some_iff.mp H
                   replace H : (if 0 ≤ t594 then (if t594 < (t581.length : Int) then (if rdOf false t581 t594 = true then (surmiselaw05_RulesClosed.l2 k4 t581 t584 x5_2 false (wrap64 (x8_4 + 1)) l0_0 l0_1 l0_2 l0_3) else (none)) else (none)) else (none)) = some r := H
                   have A36 := Am A360
                   clear A360
                   by_cases c37 : 0 ≤ t594
                   ·
                    rw [if_pos c37] at H
                    have c37b0 : decide (0 ≤ t594) = true := decide_eq_true c37
                    clear c37
                    by_cases c38 : t594 < (t581.length : Int)
                    ·
                     rw [if_pos c38] at H
                     have c38b0 : decide (t594 < (t581.length : Int)) = true := decide_eq_true c38
                     clear c38
                     obtain ⟨bq39, hbq39⟩ : ∃ b_ : Bool, b_ = (rdOf false t581 t594) := ⟨_, rfl⟩
                     replace H : (if bq39 = true then (surmiselaw05_RulesClosed.l2 k4 t581 t584 x5_2 false (wrap64 (x8_4 + 1)) l0_0 l0_1 l0_2 l0_3) else (none)) = some r := by rw [← hbq39] at H; exact H
                     have Nbq39 := Am hbq39
                     clear hbq39
                     by_cases c40 : bq39 = true
                     ·
                      subst c40
                      have H1 : (surmiselaw05_RulesClosed.l2 k4 t581 t584 x5_2 false (wrap64 (x8_4 + 1)) l0_0 l0_1 l0_2 l0_3) = some r := by rw [if_pos rfl] at H; exact H
                      clear H
                      have H := H1
                      clear H1
                      have H' := Am H
                      clear H
                      obtain ⟨Ao41, co41, eo41⟩ := Kd.R_slice HO_3.out
                      subst eo41
                      have p591 : 0 ≤ (x8_4 : Int) := of_decide_eq_true az
                      have q591 : x8_4 < (t581.length : Int) := of_decide_eq_true az
                      obtain ⟨ad591, e591, hx591_0⟩ := Kd.at_bool (Kd.R_reads' HO_3.out).2.2 x8_4 p591 q591
                      (try rw [← Nbq29.out] at hx591_0)
                      (try rw [← Nbq39.out] at hx591_0)
                      cases e591
                      replace p591 := eq_true p591
                      replace q591 := eq_true q591
                      have hcz42_0 := cz0 BK580.out
                      have hcz42_1 := cz1 BK580.out
                      have hcz42_2 := cz2 BK580.out
                      have hcz42_3 := cz3 BK580.out
                      have hfz42_0 := fz BK580 0
                      have hfz42_1 := fz BK580 1
                      have hfz42_2 := fz BK580 2
                      have hfz42_3 := fz BK580 3
                      go_wp2_with (first | (go_at_call 14; (with_reducible refine (surmiseref05_For.calls k4 _ _ l0_0 _ _ l0_1 _ _ l0_2 _ _ l0_3 x5_2 x8_4 true _ ?side1 ?side2 ?side3 ?side4 ?side5 ?side6 ?side7 ?side8 A31.out).mono ?_); (case side1 => exact kC HR0_0); (case side2 => exact HC0_0.out); (case side3 => exact kC HR0_1); (case side4 => exact HC0_1.out); (case side5 => exact kC HR0_2); (case side6 => exact HC0_2.out); (case side7 => exact kC HR0_3); (case side8 => exact HC0_3.out); rintro e w43 ⟨rfl, hb⟩; have n0_ := Am (Kd.R_below (kR HO_3) hb); have n1_ := Am (Kd.R_below (kR HO_4) hb); have n2_ := Am (blk_below (kB BK580) hb); have n3_ := Am (below_step (bs) hb); clear HO_3; clear HO_4; clear BK580; clear HB; have HO_3 := n0_; have HO_4 := n1_; have BK580 := n2_; have HB := n3_; clear n0_ n1_ n2_ n3_; (try clear hb); (try clear hb2); (try clear hk); (try clear hi); have hcz44_0 := cz0 BK580.out; have hcz44_1 := cz1 BK580.out; have hcz44_2 := cz2 BK580.out; have hcz44_3 := cz3 BK580.out; have hfz44_0 := fz BK580 0; have hfz44_1 := fz BK580 1; have hfz44_2 := fz BK580 2; have hfz44_3 := fz BK580 3; have p593 : 0 ≤ (x5_2 : Int) := of_decide_eq_true az; have q593 : x5_2 < (l0_3.length : Int) := of_decide_eq_true az; obtain ⟨ad593, A593_2, c593_2, A593_3, c593_3, A593_4, c593_4, e593, hx593_0, hx593_1, hx593_2, hx593_3, hx593_4, hl593_2, hi593_2, hl593_3, hi593_3, hl593_4, hi593_4⟩ := at_T38 HR0_3.out x5_2 p593 q593; cases e593; replace hx593_0 := hX HB hx593_0; replace hx593_1 := hX HB hx593_1; replace hx593_2 := hX HB hx593_2; replace hx593_3 := hX HB hx593_3; replace hx593_4 := hX HB hx593_4; have HR593_2 := Am hi593_2; have HC593_2 := Am hl593_2; clear hi593_2 hl593_2; have HR593_3 := Am hi593_3; have HC593_3 := Am hl593_3; clear hi593_3 hl593_3; have HR593_4 := Am hi593_4; have HC593_4 := Am hl593_4; clear hi593_4 hl593_4; replace p593 := eq_true p593; replace q593 := eq_true q593) | (go_at_call 22; (with_reducible refine (surmiseref05_To.calls k4 ((rd_T38 l0_3 x5_2).f0) ((rd_T38 l0_3 x5_2).f1) _ _ ((rd_T38 l0_3 x5_2).f2) _ _ ((rd_T38 l0_3 x5_2).f3) _ _ ((rd_T38 l0_3 x5_2).f4) x8_4 t594 _ ?side1 ?side2 ?side3 ?side4 ?side5 ?side6 A36.out).mono ?_); (case side1 => exact kC HR593_2); (case side2 => exact HC593_2.out); (case side3 => exact kC HR593_3); (case side4 => exact HC593_3.out); (case side5 => exact kC HR593_4); (case side6 => exact HC593_4.out); rintro e w45 ⟨rfl, hb⟩; have n0_ := Am (Kd.R_below (kR HO_3) hb); have n1_ := Am (Kd.R_below (kR HO_4) hb); have n2_ := Am (blk_below (kB BK580) hb); have n3_ := Am (below_step (bs) hb); clear HO_3; clear HO_4; clear BK580; clear HB; have HO_3 := n0_; have HO_4 := n1_; have BK580 := n2_; have HB := n3_; clear n0_ n1_ n2_ n3_; (try clear hb); (try clear hb2); (try clear hk); (try clear hi); have p595 : 0 ≤ (t594 : Int) := of_decide_eq_true az; have q595 : t594 < (t581.length : Int) := of_decide_eq_true az; obtain ⟨ad595, e595, hx595_0⟩ := Kd.at_bool (Kd.R_reads' HO_3.out).2.2 t594 p595 q595; (try rw [← Nbq29.out] at hx595_0); (try rw [← Nbq39.out] at hx595_0); obtain rfl : ad591 = ad595 := (by injection e595); replace p595 := eq_true p595; replace q595 := eq_true q595))
                      go_roundg k4
                      case measure => have := HJ3.out; have := HK2.out; have := HK3.out; have := HK4.out; omega
                      case rel => exact ⟨(wrap64 (x8_4 + 1)), rq, H', ⟨by have := HJ3.out; have := HK2.out; have := HK3.out; have := HK4.out; omega⟩, ⟨kR HO_3⟩, ⟨kR HO_4⟩, ⟨kB BK580⟩, ⟨bs⟩⟩
                     ·
                      replace c40 := Bool.eq_false_iff.mpr c40
                      subst c40
                      have H1 : (none) = some r := by rw [if_neg (show ¬ (false = true) by decide)] at H; exact H
                      clear H
                      have H := H1
                      clear H1
                      exact absurd H (by simp)
                    ·
                     rw [if_neg c38] at H
                     exact absurd H (by simp)
                   ·
                    rw [if_neg c37] at H
                    exact absurd H (by simp)
                  ·
                   rw [if_neg c35] at H
                   exact absurd H (by simp)
                 ·
                  rw [if_neg c34] at H
                  exact absurd H (by simp)
               ·
                replace c32 := Bool.eq_false_iff.mpr c32
                subst c32
                have H1 : (surmiselaw05_RulesClosed.l2 k4 t581 t584 x5_2 x6_3 (wrap64 (x8_4 + 1)) l0_0 l0_1 l0_2 l0_3) = some r := by rw [if_neg (show ¬ (false = true) by decide)] at H; exact H
                clear H
                have H := H1
                clear H1
                have H' := Am H
                clear H
                obtain ⟨Ao46, co46, eo46⟩ := Kd.R_slice HO_3.out
                subst eo46
                have p591 : 0 ≤ (x8_4 : Int) := of_decide_eq_true az
                have q591 : x8_4 < (t581.length : Int) := of_decide_eq_true az
                obtain ⟨ad591, e591, hx591_0⟩ := Kd.at_bool (Kd.R_reads' HO_3.out).2.2 x8_4 p591 q591
                (try rw [← Nbq29.out] at hx591_0)
                cases e591
                replace p591 := eq_true p591
                replace q591 := eq_true q591
                have hcz47_0 := cz0 BK580.out
                have hcz47_1 := cz1 BK580.out
                have hcz47_2 := cz2 BK580.out
                have hcz47_3 := cz3 BK580.out
                have hfz47_0 := fz BK580 0
                have hfz47_1 := fz BK580 1
                have hfz47_2 := fz BK580 2
                have hfz47_3 := fz BK580 3
                go_wp2_with (first | (go_at_call 14; (with_reducible refine (surmiseref05_For.calls k4 _ _ l0_0 _ _ l0_1 _ _ l0_2 _ _ l0_3 x5_2 x8_4 false _ ?side1 ?side2 ?side3 ?side4 ?side5 ?side6 ?side7 ?side8 A31.out).mono ?_); (case side1 => exact kC HR0_0); (case side2 => exact HC0_0.out); (case side3 => exact kC HR0_1); (case side4 => exact HC0_1.out); (case side5 => exact kC HR0_2); (case side6 => exact HC0_2.out); (case side7 => exact kC HR0_3); (case side8 => exact HC0_3.out); rintro e w48 ⟨rfl, hb⟩; have n0_ := Am (Kd.R_below (kR HO_3) hb); have n1_ := Am (Kd.R_below (kR HO_4) hb); have n2_ := Am (blk_below (kB BK580) hb); have n3_ := Am (below_step (bs) hb); clear HO_3; clear HO_4; clear BK580; clear HB; have HO_3 := n0_; have HO_4 := n1_; have BK580 := n2_; have HB := n3_; clear n0_ n1_ n2_ n3_; (try clear hb); (try clear hb2); (try clear hk); (try clear hi)))
                go_roundg k4
                case measure => have := HJ3.out; have := HK2.out; have := HK3.out; have := HK4.out; omega
                case rel => exact ⟨(wrap64 (x8_4 + 1)), rq, H', ⟨by have := HJ3.out; have := HK2.out; have := HK3.out; have := HK4.out; omega⟩, ⟨kR HO_3⟩, ⟨kR HO_4⟩, ⟨kB BK580⟩, ⟨bs⟩⟩
              ·
               replace c30 := Bool.eq_false_iff.mpr c30
               subst c30
               have H1 : (surmiselaw05_RulesClosed.l2 k4 t581 t584 x5_2 x6_3 (wrap64 (x8_4 + 1)) l0_0 l0_1 l0_2 l0_3) = some r := by rw [if_neg (show ¬ (false = true) by decide)] at H; exact H
               clear H
               have H := H1
               clear H1
               have H' := Am H
               clear H
               obtain ⟨Ao49, co49, eo49⟩ := Kd.R_slice HO_3.out
               subst eo49
               have p591 : 0 ≤ (x8_4 : Int) := of_decide_eq_true az
               have q591 : x8_4 < (t581.length : Int) := of_decide_eq_true az
               obtain ⟨ad591, e591, hx591_0⟩ := Kd.at_bool (Kd.R_reads' HO_3.out).2.2 x8_4 p591 q591
               (try rw [← Nbq29.out] at hx591_0)
               cases e591
               replace p591 := eq_true p591
               replace q591 := eq_true q591
               go_wp2
               go_roundg k4
               case measure => have := HJ3.out; have := HK2.out; have := HK3.out; have := HK4.out; omega
               case rel => exact ⟨(wrap64 (x8_4 + 1)), rq, H', ⟨by have := HJ3.out; have := HK2.out; have := HK3.out; have := HK4.out; omega⟩, ⟨kR HO_3⟩, ⟨kR HO_4⟩, ⟨kB BK580⟩, ⟨bs⟩⟩
             ·
              rw [if_neg c28] at H
              exact absurd H (by simp)
            ·
             rw [if_neg c27] at H
             have c27b0 : decide (x8_4 < (t581.length : Int)) = false := decide_eq_false c27
             clear c27
             have H' := Am H
             clear H
             obtain ⟨Ao50, co50, eo50⟩ := Kd.R_slice HO_3.out
             subst eo50
             go_wp2
             go_roundg k4
             case measure => have := HJ3.out; have := HK2.out; have := HK3.out; have := HK4.out; omega
             case rel => exact ⟨(wrap64 (x5_2 + 1)), rq, H', ⟨by have := HJ3.out; have := HK2.out; have := HK3.out; have := HK4.out; omega⟩, ⟨kR HO_3⟩, ⟨kR HO_4⟩, ⟨kB BK580⟩, ⟨bs⟩⟩
      ·
       rw [if_neg c19] at H
       have c19b0 : decide (x5_2 < (l0_3.length : Int)) = false := decide_eq_false c19
       clear c19
       by_cases c51 : 0 < (t581.length : Int)
       ·
        rw [if_pos c51] at H
        have c51b0 : decide (0 < (t581.length : Int)) = true := decide_eq_true c51
        have c51b1 : decide (0 < t581.length) = true := decide_eq_true (by omega)
        clear c51
        obtain rfl := Option.some.inj H
        have hcz52_0 := cz0 BK580.out
        have hcz52_1 := cz1 BK580.out
        have hcz52_2 := cz2 BK580.out
        have hcz52_3 := cz3 BK580.out
        have hfz52_0 := fz BK580 0
        have hfz52_1 := fz BK580 1
        have hfz52_2 := fz BK580 2
        have hfz52_3 := fz BK580 3
        obtain ⟨Ao53, co53, eo53⟩ := Kd.R_slice HO_3.out
        subst eo53
        have p589 : 0 ≤ (0 : Int) := (by omega)
        have q589 : 0 < (t581.length : Int) := of_decide_eq_true az
        obtain ⟨ad589, e589, hx589_0⟩ := Kd.at_bool (Kd.R_reads' HO_3.out).2.2 0 p589 q589
        cases e589
        have qi589 : (0 < t581.length) = True := eq_true (by omega)
        (try rw [show ((0 : Int)).toNat = 0 from rfl] at hx589_0)
        (try rw [Addr.add_zero'] at hx589_0)
        replace p589 := eq_true p589
        replace q589 := eq_true q589
        go_wp2
        go_ret
        exact ⟨xq, bs⟩
       ·
        rw [if_neg c51] at H
        exact absurd H (by simp)

end Go.Proofs.Ytdfhbmallnegfaa.PA
