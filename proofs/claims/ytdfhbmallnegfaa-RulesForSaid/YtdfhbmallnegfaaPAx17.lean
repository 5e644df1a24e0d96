-- Written by a program (wip/tools/gprint.py: a patched copy of the kit's print) and by hand, for this claim
import Derived.Test.YtdfhbmallnegfaaPAx0
import Derived.Test.YtdfhbmallnegfaaPAx3
import Derived.Test.YtdfhbmallnegfaaPAx8
import Derived.Test.YtdfhbmallnegfaaPAx10
import Derived.Test.YtdfhbmallnegfaaPAx15
import Derived.Test.YtdfhbmallnegfaaPAx16
namespace Go.Proofs.Ytdfhbmallnegfaa.PA
open Go.RowKit Go.Proofs.YtdfhbmallnegfaaW.PrintWords Go.Proofs.YtdfhbmallnegfaaW.PrintLast Go.Proofs.YtdfhbmallnegfaaW.PrintMore
attribute [local go_sem] max2_int min2_int max_two min_two max_three min_three max_four min_four   -- for this text's walks alone
set_option linter.unusedVariables false
set_option linter.unusedSimpArgs false

/-! ### surmiselaw05_RulesFor: function 4 -/
def surmiselaw05_RulesFor.l0 : Nat → Int → Int → ByteArray → Int → Int → List ByteArray → List ByteArray → List Int → List (S38) → Option (Bool)
 | 0, _, _, _, _, _, _, _, _, _ => none
 | k + 1, x4, x5, x6, x7, x8, x511000, x511001, x511002, x511003 => if x8 ≥ 0 then (if 0 ≤ x8 then (if x8 < (x511003.length : Int) then (if ((rd_T38 x511003 x8).f0).toList = x6.toList then (surmiselaw05_RulesFor.l0 k x4 x5 x6 x8 (wrap64 (x8 - 1)) x511000 x511001 x511002 x511003) else (surmiselaw05_RulesFor.l0 k x4 x5 x6 x7 (wrap64 (x8 - 1)) x511000 x511001 x511002 x511003)) else (none)) else (none)) else ((surmiselaw05_awake.f k).bind fun t514 => (if t514 = true then ((rules_For.f k x511000 x511001 x511002 x511003 x4 x5).bind fun t515 => ((surmiseref05_For.f k x511000 x511001 x511002 x511003 x4 x5).bind fun t516 => (if (t515 == t516) = true then ((rules_Find.f k x511000 x511001 x511002 x511003 x6).bind fun t517 => (some (t517 == x7))) else (none)))) else (none)))
def surmiselaw05_RulesFor.f (k : Nat) (l0_0 : List ByteArray) (l0_1 : List ByteArray) (l0_2 : List Int) (l0_3 : List (S38)) (a0_4 : Int) (a0_5 : Int) (a0_6 : ByteArray) : Option (Bool) := (surmiselaw05_light.f k l0_0 l0_1 l0_2 l0_3).bind fun t511 => (if t511 = true then (surmiselaw05_RulesFor.l0 k a0_4 a0_5 a0_6 (-1) (wrap64 ((l0_3.length : Int) - 1)) l0_0 l0_1 l0_2 l0_3) else ((surmiselaw05_awake.f k).bind fun t512 => (some t512)))
theorem surmiselaw05_RulesFor.mono_l : ∀ k, (∀ y0 y1 y2 y3 y4 y5 y6 y7 y8, LeO (surmiselaw05_RulesFor.l0 k y0 y1 y2 y3 y4 y5 y6 y7 y8) (surmiselaw05_RulesFor.l0 (k + 1) y0 y1 y2 y3 y4 y5 y6 y7 y8))
 | 0 => fun _ _ _ _ _ _ _ _ _ r h => by simp [surmiselaw05_RulesFor.l0] at h
 | k + 1 => by
  have ih0 := surmiselaw05_RulesFor.mono_l k
  ·
   intro y0 y1 y2 y3 y4 y5 y6 y7 y8
   unfold surmiselaw05_RulesFor.l0
   repeat' first
   | (with_reducible exact ih0 _ _ _ _ _ _ _ _ _)
   | (with_reducible exact rules_Find.mono _ _ _ _ _ _)
   | (with_reducible exact rules_For.mono _ _ _ _ _ _ _)
   | (with_reducible exact surmiselaw05_awake.mono _)
   | (with_reducible exact surmiselaw05_light.mono _ _ _ _ _)
   | (with_reducible exact surmiseref05_For.mono _ _ _ _ _ _ _)
   | (with_reducible exact LeO.refl _)
   | (with_reducible exact LeO.none _)
   | (with_reducible refine LeO.ite ?_ ?_)
   | (with_reducible refine LeO.bind ?_ (fun _ => ?_))
   | exact ih0 _ _ _ _ _ _ _ _ _
   | exact rules_Find.mono _ _ _ _ _ _
   | exact rules_For.mono _ _ _ _ _ _ _
   | exact surmiselaw05_awake.mono _
   | exact surmiselaw05_light.mono _ _ _ _ _
   | exact surmiseref05_For.mono _ _ _ _ _ _ _
   | exact LeO.none _
   | refine LeO.ite ?_ ?_
   | refine LeO.bind ?_ (fun _ => ?_)
theorem surmiselaw05_RulesFor.mono : ∀ a0 a1 a2 a3 a4 a5 a6 k, LeO (surmiselaw05_RulesFor.f k a0 a1 a2 a3 a4 a5 a6) (surmiselaw05_RulesFor.f (k + 1) a0 a1 a2 a3 a4 a5 a6) := by
 intro a0 a1 a2 a3 a4 a5 a6 k
 have ih0 := surmiselaw05_RulesFor.mono_l k
 unfold surmiselaw05_RulesFor.f
 repeat' first
   | (with_reducible exact ih0 _ _ _ _ _ _ _ _ _)
   | (with_reducible exact rules_Find.mono _ _ _ _ _ _)
   | (with_reducible exact rules_For.mono _ _ _ _ _ _ _)
   | (with_reducible exact surmiselaw05_awake.mono _)
   | (with_reducible exact surmiselaw05_light.mono _ _ _ _ _)
   | (with_reducible exact surmiseref05_For.mono _ _ _ _ _ _ _)
   | (with_reducible exact LeO.refl _)
   | (with_reducible exact LeO.none _)
   | (with_reducible refine LeO.ite ?_ ?_)
   | (with_reducible refine LeO.bind ?_ (fun _ => ?_))
   | exact ih0 _ _ _ _ _ _ _ _ _
   | exact rules_Find.mono _ _ _ _ _ _
   | exact rules_For.mono _ _ _ _ _ _ _
   | exact surmiselaw05_awake.mono _
   | exact surmiselaw05_light.mono _ _ _ _ _
   | exact surmiseref05_For.mono _ _ _ _ _ _ _
   | exact LeO.none _
   | refine LeO.ite ?_ ?_
   | refine LeO.bind ?_ (fun _ => ?_)
def surmiselaw05_RulesFor.T1 : Bool × List (List Nat × List Nat) := (true, [([], []), ([0], [0]), ([], []), ([2], [2]), ([], []), ([4], [4]), ([], []), ([6], [6]), ([], []), ([8, 1, 0, 1, 8], [1, 8]), ([3, 9, 0, 1, 2, 3, 8, 9], [3]), ([5, 10, 0, 1, 2, 3, 4, 5, 8, 9, 10], [5]), ([7, 11, 0, 1, 2, 3, 4, 5, 6, 7, 8, 9, 10, 11], [7])])
def surmiselaw05_RulesFor.B1 : List Nat := [0, 1, 0, 4, 0, 16, 0, 64, 0, 259, 783, 1855, 4095]
theorem surmiselaw05_RulesFor.tab1 : rtab .any (opsOf Try.f4 1) = surmiselaw05_RulesFor.T1 := by kernel_rfl
theorem surmiselaw05_RulesFor.bits1 : waitsOk surmiselaw05_RulesFor.T1.2 surmiselaw05_RulesFor.B1 = true := by kernel_rfl
def surmiselaw05_RulesFor.T10 : Bool × List (List Nat × List Nat) := (true, [([], []), ([0, 0], [0]), ([1], [1]), ([1], [1]), ([1], [1]), ([2, 3, 4, 1, 1], [1, 2, 3, 4]), ([1], [1]), ([1], [1]), ([1], [1]), ([6, 7, 8, 5, 1], [1, 6, 7, 8]), ([5, 9, 1], [1, 5, 9]), ([1, 10], [1, 10]), ([11, 9], [11]), ([12], [12]), ([12], [12]), ([13, 14, 12, 12], [12, 13, 14]), ([12], [12]), ([15, 16, 12], [12, 15, 16]), ([12, 17], [12, 17]), ([18, 15, 0, 1, 2, 3, 4, 5, 6, 7, 8, 9, 10, 11, 12, 13, 14, 15, 16, 17, 18], [18])])
def surmiselaw05_RulesFor.B10 : List Nat := [0, 1, 3, 3, 3, 31, 3, 3, 3, 511, 1023, 2047, 4095, 8191, 8191, 32767, 8191, 131071, 262143, 524287]
theorem surmiselaw05_RulesFor.tab10 : rtab .any (opsOf Try.f4 10) = surmiselaw05_RulesFor.T10 := by kernel_rfl
theorem surmiselaw05_RulesFor.bits10 : waitsOk surmiselaw05_RulesFor.T10.2 surmiselaw05_RulesFor.B10 = true := by kernel_rfl
set_option maxHeartbeats 8000000 in
set_option maxRecDepth 100000 in
theorem surmiselaw05_RulesFor.calls (k : Nat) (A0_0 : Option Addr) (c0_0 : Nat) (l0_0 : List ByteArray) (A0_1 : Option Addr) (c0_1 : Nat) (l0_1 : List ByteArray) (A0_2 : Option Addr) (c0_2 : Nat) (l0_2 : List Int) (A0_3 : Option Addr) (c0_3 : Nat) (l0_3 : List (S38)) (a0_4 : Int) (a0_5 : Int) (a0_6 : ByteArray) (r : Bool) (w : World) (hr0_0 : Kd.C Kd.string w A0_0 l0_0.length l0_0) (hc0_0 : l0_0.length ≤ c0_0) (hr0_1 : Kd.C Kd.string w A0_1 l0_1.length l0_1) (hc0_1 : l0_1.length ≤ c0_1) (hr0_2 : Kd.C (Kd.int .i64) w A0_2 l0_2.length l0_2) (hc0_2 : l0_2.length ≤ c0_2) (hr0_3 : Kd.C k38 w A0_3 l0_3.length l0_3) (hc0_3 : l0_3.length ≤ c0_3) (h : surmiselaw05_RulesFor.f k l0_0 l0_1 l0_2 l0_3 a0_4 a0_5 a0_6 = some r) :
  Calls Try.prog 4 #[.agg #[.slice A0_0 l0_0.length c0_0, .slice A0_1 l0_1.length c0_1, .slice A0_2 l0_2.length c0_2, .slice A0_3 l0_3.length c0_3, .int .i64 a0_4, .int .i64 a0_5, .string a0_6]] w fun e w' => e = .returned (.bool r) ∧ Below w.heap.size w w' := by
 have hu34 := Try.underlying34
 have hu26 := Try.underlying26
 have HR0_0 := Am hr0_0
 have HC0_0 := Am hc0_0
 clear hr0_0 hc0_0
 have HR0_1 := Am hr0_1
 have HC0_1 := Am hc0_1
 clear hr0_1 hc0_1
 have HR0_2 := Am hr0_2
 have HC0_2 := Am hc0_2
 clear hr0_2 hc0_2
 have HR0_3 := Am hr0_3
 have HC0_3 := Am hc0_3
 clear hr0_3 hc0_3
 have HB := Am (Below.refl w.heap.size w)
 have H : ((surmiselaw05_light.f k l0_0 l0_1 l0_2 l0_3).bind fun t511 => (if t511 = true then (surmiselaw05_RulesFor.l0 k a0_4 a0_5 a0_6 (-1) (wrap64 ((l0_3.length : Int) - 1)) l0_0 l0_1 l0_2 l0_3) else ((surmiselaw05_awake.f k).bind fun t512 => (some t512)))) = some r := h
 clear h
 obtain ⟨t511, A20, H⟩ := Option.bind_eq_some_iff.mp H
 replace H : (if t511 = true then (surmiselaw05_RulesFor.l0 k a0_4 a0_5 a0_6 (-1) (wrap64 ((l0_3.length : Int) - 1)) l0_0 l0_1 l0_2 l0_3) else ((surmiselaw05_awake.f k).bind fun t512 => (some t512))) = some r := H
 have A2 := Am A20
 clear A20
 by_cases c3 : t511 = true
 ·
  subst c3
  have H1 : (surmiselaw05_RulesFor.l0 k a0_4 a0_5 a0_6 (-1) (wrap64 ((l0_3.length : Int) - 1)) l0_0 l0_1 l0_2 l0_3) = some r := by rw [if_pos rfl] at H; exact H
  clear H
  have H := H1
  clear H1
  have H' := Am H
  clear H
  go_enter Try.func4, Try.ntmps4
  try go_wp2_with (first | ((with_reducible refine gate_dst (N := 1) rfl ?_); refine bxe (N := 1) (cs := #[.slice A0_0 l0_0.length c0_0, .slice A0_1 l0_1.length c0_1, .slice A0_2 l0_2.length c0_2, .slice A0_3 l0_3.length c0_3, .int .i64 a0_4, .int .i64 a0_5, .string a0_6]) (t := 34) ?_; intro gb509 hg w4 hbox hb; have n0_ := Am (below_step (bl) hb); have n1_ := Am (hbox); have n2_ := Am ((gE hg : w.heap.size ≤ gb509)); have n3_ := Am ((gE hg : w.heap.size ≤ gb509)); clear HB; have HB := n0_; have BK509 := n1_; have GW509 := n2_; have GE509 := n3_; clear n0_ n1_ n2_ n3_; clear hb hbox hg))
  have n0_ := Am (blk_drew BK509.out)
  have n1_ := Am (below_drew1 HB.out)
  clear BK509
  clear HB
  have BK509 := n0_
  have HB := n1_
  clear n0_ n1_
  refine start_ (n := 13) (S := fun w' => w'.cell? ⟨gb509, 0, none⟩ = some (.slice A0_0 l0_0.length c0_0) ∧ w'.cell? ⟨gb509, 1, none⟩ = some (.slice A0_1 l0_1.length c0_1) ∧ w'.cell? ⟨gb509, 2, none⟩ = some (.slice A0_2 l0_2.length c0_2) ∧ w'.cell? ⟨gb509, 3, none⟩ = some (.slice A0_3 l0_3.length c0_3) ∧ w'.cell? ⟨gb509, 4, none⟩ = some (.int .i64 a0_4) ∧ w'.cell? ⟨gb509, 5, none⟩ = some (.int .i64 a0_5) ∧ w'.cell? ⟨gb509, 6, none⟩ = some (.string a0_6)) (ds := []) #[false, false, false, false, false, false, false, false, false, false, false, false, false] (by kernel_rfl) rfl rfl ⟨(blk_cell BK509.out 0).trans rfl, (blk_cell BK509.out 1).trans rfl, (blk_cell BK509.out 2).trans rfl, (blk_cell BK509.out 3).trans rfl, (blk_cell BK509.out 4).trans rfl, (blk_cell BK509.out 5).trans rfl, (blk_cell BK509.out 6).trans rfl⟩ (fun hHeld => ?_); refine with_tabW surmiselaw05_RulesFor.tab1 surmiselaw05_RulesFor.bits1 (fun HT_ HW_ => ?_)
  generalize w4.drew = w5 at BK509 HB hHeld ⊢
  refine pure_ (i := 0) (N := some 9) (v := ?_) (a' := ?_) #[true, false, false, false, false, false, false, false, false, false, false, false, false] rfl rfl (any_of HT_.out (by kernel_rfl)) (fun _ _ _ h => h) (Or.inl ⟨by rfl, ?_⟩) ?_ ?_
  rotate_left
  ·
   intro w'
   go_simp
   with_reducible rfl
  rotate_left
  ·
   simp only [Act.put, List.setIfInBounds_toArray, List.set_cons_zero, List.set_cons_succ, i64_w, i32_w]
   rfl
  refine pure_ (i := 2) (N := some 11) (v := ?_) (a' := ?_) #[true, false, true, false, false, false, false, false, false, false, false, false, false] rfl rfl (any_of HT_.out (by kernel_rfl)) (fun _ _ _ h => h) (Or.inl ⟨by rfl, ?_⟩) ?_ ?_
  rotate_left
  ·
   intro w'
   go_simp
   with_reducible rfl
  rotate_left
  ·
   simp only [Act.put, List.setIfInBounds_toArray, List.set_cons_zero, List.set_cons_succ, i64_w, i32_w]
   rfl
  refine pure_ (i := 4) (N := some 13) (v := ?_) (a' := ?_) #[true, false, true, false, true, false, false, false, false, false, false, false, false] rfl rfl (any_of HT_.out (by kernel_rfl)) (fun _ _ _ h => h) (Or.inl ⟨by rfl, ?_⟩) ?_ ?_
  rotate_left
  ·
   intro w'
   go_simp
   with_reducible rfl
  rotate_left
  ·
   simp only [Act.put, List.setIfInBounds_toArray, List.set_cons_zero, List.set_cons_succ, i64_w, i32_w]
   rfl
  refine pure_ (i := 6) (N := some 15) (v := ?_) (a' := ?_) #[true, false, true, false, true, false, true, false, false, false, false, false, false] rfl rfl (any_of HT_.out (by kernel_rfl)) (fun _ _ _ h => h) (Or.inl ⟨by rfl, ?_⟩) ?_ ?_
  rotate_left
  ·
   intro w'
   go_simp
   with_reducible rfl
  rotate_left
  ·
   simp only [Act.put, List.setIfInBounds_toArray, List.set_cons_zero, List.set_cons_succ, i64_w, i32_w]
   rfl
  refine take_ (i := 1) (N := some 10) (v := ?_) (a' := ?_) #[true, true, true, false, true, false, true, false, false, false, false, false, false] rfl rfl (take_ofW HT_.out HW_.out (by kernel_rfl)) (fun _ _ _ h => h) (Or.inl ⟨by rfl, ?_⟩) hHeld ?_ ?_
  rotate_left
  ·
   rintro w' ⟨s0, s1, s2, s3, s4, s5, s6⟩
   go_simp
   with_reducible rfl
  rotate_left
  ·
   simp only [Act.put, List.setIfInBounds_toArray, List.set_cons_zero, List.set_cons_succ, i64_w, i32_w]
   rfl
  refine take_ (i := 3) (N := some 12) (v := ?_) (a' := ?_) #[true, true, true, true, true, false, true, false, false, false, false, false, false] rfl rfl (take_ofW HT_.out HW_.out (by kernel_rfl)) (fun _ _ _ h => h) (Or.inl ⟨by rfl, ?_⟩) hHeld ?_ ?_
  rotate_left
  ·
   rintro w' ⟨s0, s1, s2, s3, s4, s5, s6⟩
   go_simp
   with_reducible rfl
  rotate_left
  ·
   simp only [Act.put, List.setIfInBounds_toArray, List.set_cons_zero, List.set_cons_succ, i64_w, i32_w]
   rfl
  refine take_ (i := 5) (N := some 14) (v := ?_) (a' := ?_) #[true, true, true, true, true, true, true, false, false, false, false, false, false] rfl rfl (take_ofW HT_.out HW_.out (by kernel_rfl)) (fun _ _ _ h => h) (Or.inl ⟨by rfl, ?_⟩) hHeld ?_ ?_
  rotate_left
  ·
   rintro w' ⟨s0, s1, s2, s3, s4, s5, s6⟩
   go_simp
   with_reducible rfl
  rotate_left
  ·
   simp only [Act.put, List.setIfInBounds_toArray, List.set_cons_zero, List.set_cons_succ, i64_w, i32_w]
   rfl
  refine take_ (i := 7) (N := some 16) (v := ?_) (a' := ?_) #[true, true, true, true, true, true, true, true, false, false, false, false, false] rfl rfl (take_ofW HT_.out HW_.out (by kernel_rfl)) (fun _ _ _ h => h) (Or.inl ⟨by rfl, ?_⟩) hHeld ?_ ?_
  rotate_left
  ·
   rintro w' ⟨s0, s1, s2, s3, s4, s5, s6⟩
   go_simp
   with_reducible rfl
  rotate_left
  ·
   simp only [Act.put, List.setIfInBounds_toArray, List.set_cons_zero, List.set_cons_succ, i64_w, i32_w]
   rfl
  refine one_ (i := 8) (N := some 3) #[true, true, true, true, true, true, true, true, true, false, false, false, false] rfl rfl (one_of HT_.out (by kernel_rfl)) (by decide) (fun K hK => ?_)
  refine box_step ?hg (N := 3) ?hd (cs := #[.slice none 0 0, .slice none 0 0, .slice none 0 0, .slice none 0 0]) (t := 26) ?hr ?_; (case hd => rfl); (case hg => rfl); (case hr => first | (go_simp; done) | (go_simp; rfl))
  intro gb510 hg w6 hbox hb
  have n0_ := Am (blk_below (kB BK509) hb)
  have n1_ := Am (below_step (bs) hb)
  have n2_ := Am (hbox)
  have n3_ := Am ((gE hg : w.heap.size ≤ gb510))
  have n4_ := Am ((gE hg : w.heap.size ≤ gb510))
  have n5_ := Am (nL hg BK509)
  have n6_ := Am (nG hg BK509)
  clear BK509
  clear HB
  have BK509 := n0_
  have HB := n1_
  have BK510 := n2_
  have GW510 := n3_
  have GE510 := n4_
  have NB509_510 := n5_
  have NB510_509 := n6_
  clear n0_ n1_ n2_ n3_ n4_ n5_ n6_
  clear hb hbox hg
  refine hK.out _ _ ⟨(blk_cell BK509.out 0).trans rfl, (blk_cell BK509.out 1).trans rfl, (blk_cell BK509.out 2).trans rfl, (blk_cell BK509.out 3).trans rfl, (blk_cell BK509.out 4).trans rfl, (blk_cell BK509.out 5).trans rfl, (blk_cell BK509.out 6).trans rfl⟩ (fun hHeld => ?_)
  clear hK K
  refine norm_ (a' := ?_) ?_ ?_
  rotate_left
  ·
   show Act.put _ (some 3) _ = _
   simp only [Act.put, List.setIfInBounds_toArray, List.set_cons_zero, List.set_cons_succ, i64_w, i32_w]
   rfl
  refine one_ (i := 9) (N := none) #[true, true, true, true, true, true, true, true, true, true, false, false, false] rfl rfl (one_of HT_.out (by kernel_rfl)) (by decide) (fun K hK => ?_)
  have hs7 : w6.cell? ⟨gb510, 0, none⟩ = some (.slice none 0 0) := (blk_cell BK510.out 0).trans rfl
  have hfs7 := fz BK510 0
  have hns7_0 := NB509_510.out
  have hms7_0 := NB510_509.out
  have hs8 : w6.cell? ⟨gb510, 1, none⟩ = some (.slice none 0 0) := (blk_cell BK510.out 1).trans rfl
  have hfs8 := fz BK510 1
  have hns8_0 := NB509_510.out
  have hms8_0 := NB510_509.out
  have hs9 : w6.cell? ⟨gb510, 2, none⟩ = some (.slice none 0 0) := (blk_cell BK510.out 2).trans rfl
  have hfs9 := fz BK510 2
  have hns9_0 := NB509_510.out
  have hms9_0 := NB510_509.out
  have hs10 : w6.cell? ⟨gb510, 3, none⟩ = some (.slice none 0 0) := (blk_cell BK510.out 3).trans rfl
  have hfs10 := fz BK510 3
  have hns10_0 := NB509_510.out
  have hms10_0 := NB510_509.out
  refine skip_ (w1 := ?_) (by rfl) rfl ?_ ?_
  rotate_left
  ·
   go_simp
   rfl
  refine hK.out _ _ ⟨((cell_far (p := ⟨gb510, _, none⟩) NB509_510.out _).trans (((cell_far (p := ⟨gb510, _, none⟩) NB509_510.out _).trans (((cell_far (p := ⟨gb510, _, none⟩) NB509_510.out _).trans (((cell_far (p := ⟨gb510, _, none⟩) NB509_510.out _).trans (hHeld.1)))))))), ((cell_far (p := ⟨gb510, _, none⟩) NB509_510.out _).trans (((cell_far (p := ⟨gb510, _, none⟩) NB509_510.out _).trans (((cell_far (p := ⟨gb510, _, none⟩) NB509_510.out _).trans (((cell_far (p := ⟨gb510, _, none⟩) NB509_510.out _).trans (hHeld.2.1)))))))), ((cell_far (p := ⟨gb510, _, none⟩) NB509_510.out _).trans (((cell_far (p := ⟨gb510, _, none⟩) NB509_510.out _).trans (((cell_far (p := ⟨gb510, _, none⟩) NB509_510.out _).trans (((cell_far (p := ⟨gb510, _, none⟩) NB509_510.out _).trans (hHeld.2.2.1)))))))), ((cell_far (p := ⟨gb510, _, none⟩) NB509_510.out _).trans (((cell_far (p := ⟨gb510, _, none⟩) NB509_510.out _).trans (((cell_far (p := ⟨gb510, _, none⟩) NB509_510.out _).trans (((cell_far (p := ⟨gb510, _, none⟩) NB509_510.out _).trans (hHeld.2.2.2.1)))))))), ((cell_far (p := ⟨gb510, _, none⟩) NB509_510.out _).trans (((cell_far (p := ⟨gb510, _, none⟩) NB509_510.out _).trans (((cell_far (p := ⟨gb510, _, none⟩) NB509_510.out _).trans (((cell_far (p := ⟨gb510, _, none⟩) NB509_510.out _).trans (hHeld.2.2.2.2.1)))))))), ((cell_far (p := ⟨gb510, _, none⟩) NB509_510.out _).trans (((cell_far (p := ⟨gb510, _, none⟩) NB509_510.out _).trans (((cell_far (p := ⟨gb510, _, none⟩) NB509_510.out _).trans (((cell_far (p := ⟨gb510, _, none⟩) NB509_510.out _).trans (hHeld.2.2.2.2.2.1)))))))), ((cell_far (p := ⟨gb510, _, none⟩) NB509_510.out _).trans (((cell_far (p := ⟨gb510, _, none⟩) NB509_510.out _).trans (((cell_far (p := ⟨gb510, _, none⟩) NB509_510.out _).trans (((cell_far (p := ⟨gb510, _, none⟩) NB509_510.out _).trans (hHeld.2.2.2.2.2.2))))))))⟩ (fun hHeld => ?_)
  clear hK K
  refine pure_ (i := 10) (N := some 4) (v := ?_) (a' := ?_) #[true, true, true, true, true, true, true, true, true, true, true, false, false] rfl rfl (any_of HT_.out (by kernel_rfl)) (fun _ _ _ h => h) (Or.inl ⟨by rfl, ?_⟩) ?_ ?_
  rotate_left
  ·
   intro w'
   go_simp
   with_reducible rfl
  rotate_left
  ·
   simp only [Act.put, List.setIfInBounds_toArray, List.set_cons_zero, List.set_cons_succ, i64_w, i32_w]
   rfl
  refine pure_ (i := 11) (N := some 5) (v := ?_) (a' := ?_) #[true, true, true, true, true, true, true, true, true, true, true, true, false] rfl rfl (any_of HT_.out (by kernel_rfl)) (fun _ _ _ h => h) (Or.inl ⟨by rfl, ?_⟩) ?_ ?_
  rotate_left
  ·
   intro w'
   go_simp
   with_reducible rfl
  rotate_left
  ·
   simp only [Act.put, List.setIfInBounds_toArray, List.set_cons_zero, List.set_cons_succ, i64_w, i32_w]
   rfl
  refine pure_ (i := 12) (N := some 6) (v := ?_) (a' := ?_) #[true, true, true, true, true, true, true, true, true, true, true, true, true] rfl rfl (any_of HT_.out (by kernel_rfl)) (fun _ _ _ h => h) (Or.inl ⟨by rfl, ?_⟩) ?_ ?_
  rotate_left
  ·
   intro w'
   go_simp
   with_reducible rfl
  rotate_left
  ·
   simp only [Act.put, List.setIfInBounds_toArray, List.set_cons_zero, List.set_cons_succ, i64_w, i32_w]
   rfl
  refine done_ (done_of HT_.out (by kernel_rfl)) ?_
  have hnb11 := NB510_509.out
  have hnc11 := NB509_510.out
  have hcz12_0 := cz0 BK510.out
  have hcz12_1 := cz1 BK510.out
  have hcz12_2 := cz2 BK510.out
  have hcz12_3 := cz3 BK510.out
  have hfz12_0 := fz BK510 0
  have hfz12_1 := fz BK510 1
  have hfz12_2 := fz BK510 2
  have hfz12_3 := fz BK510 3
  try go_wp2_with (first | ((with_reducible refine gate_callee (f := 12) rfl ?_); refine goesL_ (some 18) rfl rfl Try.func12 (by kernel_rfl) rfl #[.agg #[.slice A0_0 l0_0.length c0_0, .slice A0_1 l0_1.length c0_1, .slice A0_2 l0_2.length c0_2, .slice A0_3 l0_3.length c0_3]] rfl aq ?_; (with_reducible refine (surmiselaw05_light.calls k _ _ l0_0 _ _ l0_1 _ _ l0_2 _ _ l0_3 true _ ?side1 ?side2 ?side3 ?side4 ?side5 ?side6 ?side7 ?side8 A2.out).mono ?_); (case side1 => exact Kd.C_below HR0_0.out (bs)); (case side2 => exact HC0_0.out); (case side3 => exact Kd.C_below HR0_1.out (bs)); (case side4 => exact HC0_1.out); (case side5 => exact Kd.C_below HR0_2.out (bs)); (case side6 => exact HC0_2.out); (case side7 => exact Kd.C_below HR0_3.out (bs)); (case side8 => exact HC0_3.out); rintro e w13 ⟨rfl, hb⟩; refine ⟨_, rfl, ?_⟩; have n0_ := Am (blk_below (kZ BK509) hb); have n1_ := Am (blk_below (g := gb510) (o := .cells #[.slice A0_0 l0_0.length c0_0, .slice A0_1 l0_1.length c0_1, .slice A0_2 l0_2.length c0_2, .slice A0_3 l0_3.length c0_3] 26 (0, 0)) (by (with_reducible repeat (first | refine blk_drewN ?_ _ | refine blk_drew ?_ | refine blk_alloc ?_ _)); refine blk_put (cs := #[.slice A0_0 l0_0.length c0_0, .slice A0_1 l0_1.length c0_1, .slice A0_2 l0_2.length c0_2, .slice none 0 0]) ?_ 3 _ rfl; (with_reducible repeat (first | refine blk_drewN ?_ _ | refine blk_drew ?_ | refine blk_alloc ?_ _)); refine blk_put (cs := #[.slice A0_0 l0_0.length c0_0, .slice A0_1 l0_1.length c0_1, .slice none 0 0, .slice none 0 0]) ?_ 2 _ rfl; (with_reducible repeat (first | refine blk_drewN ?_ _ | refine blk_drew ?_ | refine blk_alloc ?_ _)); refine blk_put (cs := #[.slice A0_0 l0_0.length c0_0, .slice none 0 0, .slice none 0 0, .slice none 0 0]) ?_ 1 _ rfl; (with_reducible repeat (first | refine blk_drewN ?_ _ | refine blk_drew ?_ | refine blk_alloc ?_ _)); refine blk_put (cs := #[.slice none 0 0, .slice none 0 0, .slice none 0 0, .slice none 0 0]) ?_ 0 _ rfl; (with_reducible repeat (first | refine blk_drewN ?_ _ | refine blk_drew ?_ | refine blk_alloc ?_ _)); exact BK510.out) hb); have n2_ := Am (below_step (bs) hb); clear BK509; clear BK510; clear HB; have BK509 := n0_; have BK510 := n1_; have HB := n2_; clear n0_ n1_ n2_; (try clear hb); (try clear hb2); (try clear hk); (try clear hi); have hcz14_0 := cz0 BK510.out; have hcz14_1 := cz1 BK510.out; have hcz14_2 := cz2 BK510.out; have hcz14_3 := cz3 BK510.out; have hfz14_0 := fz BK510 0; have hfz14_1 := fz BK510 1; have hfz14_2 := fz BK510 2; have hfz14_3 := fz BK510 3))
  go_loopg [7, 8] k (fun kq v7 v8 w' => ∃ (x7_1 : Int) (x8_1 : Int), v7 = .int .i64 x7_1 ∧ v8 = .int .i64 x8_1 ∧ Aside0 (surmiselaw05_RulesFor.l0 kq a0_4 a0_5 a0_6 x7_1 x8_1 l0_0 l0_1 l0_2 l0_3 = some r) ∧ Aside0 (kq ≤ k) ∧ Aside0 (w'.heap[gb509]? = some (.cells #[(.slice A0_0 l0_0.length c0_0), (.slice A0_1 l0_1.length c0_1), (.slice A0_2 l0_2.length c0_2), (.slice A0_3 l0_3.length c0_3), .int .i64 a0_4, .int .i64 a0_5, .string a0_6] 34 (0, 0))) ∧ Aside0 (w'.heap[gb510]? = some (.cells #[(.slice A0_0 l0_0.length c0_0), (.slice A0_1 l0_1.length c0_1), (.slice A0_2 l0_2.length c0_2), (.slice A0_3 l0_3.length c0_3)] 26 (0, 0))) ∧ Aside0 (Below w.heap.size w w'))
  case atStart => exact ⟨((-1)), (wrap64 ((l0_3.length : Int) - 1)), rq, rq, H', ⟨Nat.le_refl _⟩, ⟨kB BK509⟩, ⟨kB BK510⟩, ⟨bs⟩⟩
  case round =>
   clear H'
   try clear c1
   try clear p2
   try clear c3
   try clear c4
   try clear p6
   try clear c11
   try clear c12
   try clear hcz12_0
   try clear hcz12_1
   try clear hcz12_2
   try clear hcz12_3
   try clear hcz14_0
   try clear hcz14_1
   try clear hcz14_2
   try clear hcz14_3
   try clear hfz12_0
   try clear hfz12_1
   try clear hfz12_2
   try clear hfz12_3
   try clear hfz14_0
   try clear hfz14_1
   try clear hfz14_2
   try clear hfz14_3
   obtain ⟨x7_1, x8_1, rfl, rfl, HA, HK1, BK509, BK510, HB⟩ := hrel
   cases gk with
   | zero => exact absurd HA.out (by simp [surmiselaw05_RulesFor.l0])
   | succ k1 =>
    have H := HA.out
    clear HA
    simp only [surmiselaw05_RulesFor.l0] at H
    by_cases c15 : x8_1 ≥ 0
    ·
     rw [if_pos c15] at H
     have c15b0 : decide (0 ≤ x8_1) = true := decide_eq_true c15
     clear c15
     by_cases c16 : 0 ≤ x8_1
     ·
      rw [if_pos c16] at H
      have c16b0 : decide (0 ≤ x8_1) = true := decide_eq_true c16
      clear c16
      by_cases c17 : x8_1 < (l0_3.length : Int)
      ·
       rw [if_pos c17] at H
       have c17b0 : decide (x8_1 < (l0_3.length : Int)) = true := decide_eq_true c17
       clear c17
       by_cases c18 : ((rd_T38 l0_3 x8_1).f0).toList = a0_6.toList
       ·
        rw [if_pos c18] at H
        have c18b0 : (((rd_T38 l0_3 x8_1).f0).toList == a0_6.toList) = true := beq_iff_eq.mpr c18
        have c18b1 : (((rd_T38 l0_3 x8_1).f0).toList != a0_6.toList) = false := bne_eq_false_iff_eq.mpr c18
        clear c18
        have H' := Am H
        clear H
        have hnb19 := NB510_509.out
        have hnc19 := NB509_510.out
        have hcz20_0 := cz0 BK510.out
        have hcz20_1 := cz1 BK510.out
        have hcz20_2 := cz2 BK510.out
        have hcz20_3 := cz3 BK510.out
        have hfz20_0 := fz BK510 0
        have hfz20_1 := fz BK510 1
        have hfz20_2 := fz BK510 2
        have hfz20_3 := fz BK510 3
        have p513 : 0 ≤ (x8_1 : Int) := of_decide_eq_true az
        have q513 : x8_1 < (l0_3.length : Int) := of_decide_eq_true az
        obtain ⟨ad513, A513_2, c513_2, A513_3, c513_3, A513_4, c513_4, e513, hx513_0, hx513_1, hx513_2, hx513_3, hx513_4, hl513_2, hi513_2, hl513_3, hi513_3, hl513_4, hi513_4⟩ := at_T38 HR0_3.out x8_1 p513 q513
        cases e513
        replace hx513_0 := hX HB hx513_0
        replace hx513_1 := hX HB hx513_1
        replace hx513_2 := hX HB hx513_2
        replace hx513_3 := hX HB hx513_3
        replace hx513_4 := hX HB hx513_4
        have HR513_2 := Am hi513_2
        have HC513_2 := Am hl513_2
        clear hi513_2 hl513_2
        have HR513_3 := Am hi513_3
        have HC513_3 := Am hl513_3
        clear hi513_3 hl513_3
        have HR513_4 := Am hi513_4
        have HC513_4 := Am hl513_4
        clear hi513_4 hl513_4
        replace p513 := eq_true p513
        replace q513 := eq_true q513
        go_wp2
        go_roundg k1
        case measure => have := HK1.out; omega
        case rel => exact ⟨(x8_1), (wrap64 (x8_1 - 1)), rq, rq, H', ⟨by have := HK1.out; omega⟩, ⟨kB BK509⟩, ⟨kB BK510⟩, ⟨bs⟩⟩
       ·
        rw [if_neg c18] at H
        have c18b0 : (((rd_T38 l0_3 x8_1).f0).toList == a0_6.toList) = false := beq_eq_false_iff_ne.mpr c18
        have c18b1 : (((rd_T38 l0_3 x8_1).f0).toList != a0_6.toList) = true := bne_iff_ne.mpr c18
        have H' := Am H
        clear H
        have hnb21 := NB510_509.out
        have hnc21 := NB509_510.out
        have hcz22_0 := cz0 BK510.out
        have hcz22_1 := cz1 BK510.out
        have hcz22_2 := cz2 BK510.out
        have hcz22_3 := cz3 BK510.out
        have hfz22_0 := fz BK510 0
        have hfz22_1 := fz BK510 1
        have hfz22_2 := fz BK510 2
        have hfz22_3 := fz BK510 3
        have p513 : 0 ≤ (x8_1 : Int) := of_decide_eq_true az
        have q513 : x8_1 < (l0_3.length : Int) := of_decide_eq_true az
        obtain ⟨ad513, A513_2, c513_2, A513_3, c513_3, A513_4, c513_4, e513, hx513_0, hx513_1, hx513_2, hx513_3, hx513_4, hl513_2, hi513_2, hl513_3, hi513_3, hl513_4, hi513_4⟩ := at_T38 HR0_3.out x8_1 p513 q513
        cases e513
        replace hx513_0 := hX HB hx513_0
        replace hx513_1 := hX HB hx513_1
        replace hx513_2 := hX HB hx513_2
        replace hx513_3 := hX HB hx513_3
        replace hx513_4 := hX HB hx513_4
        have HR513_2 := Am hi513_2
        have HC513_2 := Am hl513_2
        clear hi513_2 hl513_2
        have HR513_3 := Am hi513_3
        have HC513_3 := Am hl513_3
        clear hi513_3 hl513_3
        have HR513_4 := Am hi513_4
        have HC513_4 := Am hl513_4
        clear hi513_4 hl513_4
        replace p513 := eq_true p513
        replace q513 := eq_true q513
        go_wp2
        go_roundg k1
        case measure => have := HK1.out; omega
        case rel => exact ⟨(x7_1), (wrap64 (x8_1 - 1)), rq, rq, H', ⟨by have := HK1.out; omega⟩, ⟨kB BK509⟩, ⟨kB BK510⟩, ⟨bs⟩⟩
      ·
       rw [if_neg c17] at H
       exact absurd H (by simp)
     ·
      rw [if_neg c16] at H
      exact absurd H (by simp)
    ·
     rw [if_neg c15] at H
     have c15b0 : decide (0 ≤ x8_1) = false := decide_eq_false c15
     clear c15
     obtain ⟨t514, A230, H⟩ := Option.bind_eq_some_iff.mp H
     try dsimp only at H
     have A23 := Am A230
     clear A230
     by_cases c24 : t514 = true
     ·
      subst c24
      have H1 : ((rules_For.f k1 l0_0 l0_1 l0_2 l0_3 a0_4 a0_5).bind fun t515 => ((surmiseref05_For.f k1 l0_0 l0_1 l0_2 l0_3 a0_4 a0_5).bind fun t516 => (if (t515 == t516) = true then ((rules_Find.f k1 l0_0 l0_1 l0_2 l0_3 a0_6).bind fun t517 => (some (t517 == x7_1))) else (none)))) = some r := by rw [if_pos rfl] at H; exact H
      clear H
      have H := H1
      clear H1
      obtain ⟨t515, A250, H⟩ := Option.bind_eq_some_iff.mp H
      replace H : ((surmiseref05_For.f k1 l0_0 l0_1 l0_2 l0_3 a0_4 a0_5).bind fun t516 => (if (t515 == t516) = true then ((rules_Find.f k1 l0_0 l0_1 l0_2 l0_3 a0_6).bind fun t517 => (some (t517 == x7_1))) else (none))) = some r := H
      have A25 := Am A250
      clear A250
      obtain ⟨t516, A260, H⟩ := Option.bind_eq_some_iff.mp H
      replace H : (if (t515 == t516) = true then ((rules_Find.f k1 l0_0 l0_1 l0_2 l0_3 a0_6).bind fun t517 => (some (t517 == x7_1))) else (none)) = some r := H
      have A26 := Am A260
      clear A260
      by_cases c27 : (t515 == t516) = true
      ·
       rw [if_pos c27] at H
       have c27b0 : (t515 == t516) = true := c27
       (try (have c27b1 : decide (t515 = t516) = true := by simpa using c27))
       (try (have c27b2 : (t515 == t516) = true := by simpa using c27))
       clear c27
       obtain ⟨t517, A280, H⟩ := Option.bind_eq_some_iff.mp H
       replace H : (some (t517 == x7_1)) = some r := H
       have A28 := Am A280
       clear A280
       obtain rfl := Option.some.inj H
       try go_wp2
       have n0_ := Am (blk_drew BK509.out)
       have n1_ := Am (blk_drew BK510.out)
       have n2_ := Am (below_drew1 HB.out)
       clear BK509
       clear BK510
       clear HB
       have BK509 := n0_
       have BK510 := n1_
       have HB := n2_
       clear n0_ n1_ n2_
       refine start_ (n := 20) (S := fun w' => w'.cell? ⟨gb510, 0, none⟩ = some (.slice A0_0 l0_0.length c0_0) ∧ w'.cell? ⟨gb510, 1, none⟩ = some (.slice A0_1 l0_1.length c0_1) ∧ w'.cell? ⟨gb510, 2, none⟩ = some (.slice A0_2 l0_2.length c0_2) ∧ w'.cell? ⟨gb510, 3, none⟩ = some (.slice A0_3 l0_3.length c0_3)) (ds := []) #[false, false, false, false, false, false, false, false, false, false, false, false, false, false, false, false, false, false, false, false] (by kernel_rfl) rfl rfl ⟨(blk_cell BK510.out 0).trans rfl, (blk_cell BK510.out 1).trans rfl, (blk_cell BK510.out 2).trans rfl, (blk_cell BK510.out 3).trans rfl⟩ (fun hHeld => ?_); refine with_tabW surmiselaw05_RulesFor.tab10 surmiselaw05_RulesFor.bits10 (fun HT_ HW_ => ?_)
       generalize wr.drew = w29 at BK509 BK510 HB hHeld ⊢
       refine one_ (i := 0) (N := some 38) #[true, false, false, false, false, false, false, false, false, false, false, false, false, false, false, false, false, false, false, false] rfl rfl (one_of HT_.out (by kernel_rfl)) (by decide) (fun K hK => ?_)
       refine goes_ Try.func9 (by kernel_rfl) rfl #[] (by rfl) rfl rfl aq ?_
       with_reducible refine (surmiselaw05_awake.calls k1  true _ A23.out).mono ?_
       rintro e w30 ⟨rfl, hb⟩
       refine ⟨_, rfl, ?_⟩
       have n0_ := Am (blk_below (kB BK509) hb)
       have n1_ := Am (blk_below (kB BK510) hb)
       have n2_ := Am (below_step (bs) hb)
       clear BK509
       clear BK510
       clear HB
       have BK509 := n0_
       have BK510 := n1_
       have HB := n2_
       clear n0_ n1_ n2_
       (try clear hb)
       (try clear hb2)
       (try clear hk)
       (try clear hi)
       refine hK.out _ _ ⟨(blk_cell BK510.out 0).trans rfl, (blk_cell BK510.out 1).trans rfl, (blk_cell BK510.out 2).trans rfl, (blk_cell BK510.out 3).trans rfl⟩ (fun hHeld => ?_)
       clear hK K
       refine norm_ (a' := ?_) ?_ ?_
       rotate_left
       ·
        show Act.put _ (some 38) _ = _
        simp only [Act.put, List.setIfInBounds_toArray, List.set_cons_zero, List.set_cons_succ, i64_w, i32_w]
        rfl
       refine pure_ (i := 1) (N := some 39) (v := ?_) (a' := ?_) #[true, true, false, false, false, false, false, false, false, false, false, false, false, false, false, false, false, false, false, false] rfl rfl (any_of HT_.out (by kernel_rfl)) (fun _ _ _ h => h) (Or.inl ⟨by rfl, ?_⟩) ?_ ?_
       rotate_left
       ·
        intro w'
        go_simp
        with_reducible rfl
       rotate_left
       ·
        simp only [Act.put, List.setIfInBounds_toArray, List.set_cons_zero, List.set_cons_succ, i64_w, i32_w]
        rfl
       refine pure_ (i := 3) (N := some 41) (v := ?_) (a' := ?_) #[true, true, false, true, false, false, false, false, false, false, false, false, false, false, false, false, false, false, false, false] rfl rfl (any_of HT_.out (by kernel_rfl)) (fun _ _ _ h => h) (Or.inl ⟨by rfl, ?_⟩) ?_ ?_
       rotate_left
       ·
        intro w'
        go_simp
        with_reducible rfl
       rotate_left
       ·
        simp only [Act.put, List.setIfInBounds_toArray, List.set_cons_zero, List.set_cons_succ, i64_w, i32_w]
        rfl
       refine pure_ (i := 4) (N := some 42) (v := ?_) (a' := ?_) #[true, true, false, true, true, false, false, false, false, false, false, false, false, false, false, false, false, false, false, false] rfl rfl (any_of HT_.out (by kernel_rfl)) (fun _ _ _ h => h) (Or.inl ⟨by rfl, ?_⟩) ?_ ?_
       rotate_left
       ·
        intro w'
        go_simp
        with_reducible rfl
       rotate_left
       ·
        simp only [Act.put, List.setIfInBounds_toArray, List.set_cons_zero, List.set_cons_succ, i64_w, i32_w]
        rfl
       refine pure_ (i := 7) (N := some 45) (v := ?_) (a' := ?_) #[true, true, false, true, true, false, false, true, false, false, false, false, false, false, false, false, false, false, false, false] rfl rfl (any_of HT_.out (by kernel_rfl)) (fun _ _ _ h => h) (Or.inl ⟨by rfl, ?_⟩) ?_ ?_
       rotate_left
       ·
        intro w'
        go_simp
        with_reducible rfl
       rotate_left
       ·
        simp only [Act.put, List.setIfInBounds_toArray, List.set_cons_zero, List.set_cons_succ, i64_w, i32_w]
        rfl
       refine pure_ (i := 8) (N := some 46) (v := ?_) (a' := ?_) #[true, true, false, true, true, false, false, true, true, false, false, false, false, false, false, false, false, false, false, false] rfl rfl (any_of HT_.out (by kernel_rfl)) (fun _ _ _ h => h) (Or.inl ⟨by rfl, ?_⟩) ?_ ?_
       rotate_left
       ·
        intro w'
        go_simp
        with_reducible rfl
       rotate_left
       ·
        simp only [Act.put, List.setIfInBounds_toArray, List.set_cons_zero, List.set_cons_succ, i64_w, i32_w]
        rfl
       refine take_ (i := 2) (N := some 40) (v := ?_) (a' := ?_) #[true, true, true, true, true, false, false, true, true, false, false, false, false, false, false, false, false, false, false, false] rfl rfl (take_ofW HT_.out HW_.out (by kernel_rfl)) (fun _ _ _ h => h) (Or.inl ⟨by rfl, ?_⟩) hHeld ?_ ?_
       rotate_left
       ·
        rintro w' ⟨s0, s1, s2, s3⟩
        go_simp
        with_reducible rfl
       rotate_left
       ·
        simp only [Act.put, List.setIfInBounds_toArray, List.set_cons_zero, List.set_cons_succ, i64_w, i32_w]
        rfl
       refine take_ (i := 6) (N := some 44) (v := ?_) (a' := ?_) #[true, true, true, true, true, false, true, true, true, false, false, false, false, false, false, false, false, false, false, false] rfl rfl (take_ofW HT_.out HW_.out (by kernel_rfl)) (fun _ _ _ h => h) (Or.inl ⟨by rfl, ?_⟩) hHeld ?_ ?_
       rotate_left
       ·
        rintro w' ⟨s0, s1, s2, s3⟩
        go_simp
        with_reducible rfl
       rotate_left
       ·
        simp only [Act.put, List.setIfInBounds_toArray, List.set_cons_zero, List.set_cons_succ, i64_w, i32_w]
        rfl
       refine one_ (i := 5) (N := some 43) #[true, true, true, true, true, true, true, true, true, false, false, false, false, false, false, false, false, false, false, false] rfl rfl (one_of HT_.out (by kernel_rfl)) (by decide) (fun K hK => ?_)
       refine goes_ Try.func13 (by kernel_rfl) rfl #[.agg #[.slice A0_0 l0_0.length c0_0, .slice A0_1 l0_1.length c0_1, .slice A0_2 l0_2.length c0_2, .slice A0_3 l0_3.length c0_3], .int .i64 a0_4, .int .i64 a0_5] (by rfl) rfl rfl aq ?_
       with_reducible refine (rules_For.calls k1 _ _ l0_0 _ _ l0_1 _ _ l0_2 _ _ l0_3 a0_4 a0_5 t515 _ ?side1 ?side2 ?side3 ?side4 ?side5 ?side6 ?side7 ?side8 A25.out).mono ?_
       (case side1 => exact kC HR0_0)
       (case side2 => exact HC0_0.out)
       (case side3 => exact kC HR0_1)
       (case side4 => exact HC0_1.out)
       (case side5 => exact kC HR0_2)
       (case side6 => exact HC0_2.out)
       (case side7 => exact kC HR0_3)
       (case side8 => exact HC0_3.out)
       rintro e w31 ⟨rfl, hb⟩
       refine ⟨_, rfl, ?_⟩
       have n0_ := Am (blk_below (kB BK509) hb)
       have n1_ := Am (blk_below (kB BK510) hb)
       have n2_ := Am (below_step (bs) hb)
       clear BK509
       clear BK510
       clear HB
       have BK509 := n0_
       have BK510 := n1_
       have HB := n2_
       clear n0_ n1_ n2_
       (try clear hb)
       (try clear hb2)
       (try clear hk)
       (try clear hi)
       refine hK.out _ _ ⟨(blk_cell BK510.out 0).trans rfl, (blk_cell BK510.out 1).trans rfl, (blk_cell BK510.out 2).trans rfl, (blk_cell BK510.out 3).trans rfl⟩ (fun hHeld => ?_)
       clear hK K
       refine norm_ (a' := ?_) ?_ ?_
       rotate_left
       ·
        show Act.put _ (some 43) _ = _
        simp only [Act.put, List.setIfInBounds_toArray, List.set_cons_zero, List.set_cons_succ, i64_w, i32_w]
        rfl
       refine one_ (i := 9) (N := some 47) #[true, true, true, true, true, true, true, true, true, true, false, false, false, false, false, false, false, false, false, false] rfl rfl (one_of HT_.out (by kernel_rfl)) (by decide) (fun K hK => ?_)
       refine goes_ Try.func14 (by kernel_rfl) rfl #[.agg #[.slice A0_0 l0_0.length c0_0, .slice A0_1 l0_1.length c0_1, .slice A0_2 l0_2.length c0_2, .slice A0_3 l0_3.length c0_3], .int .i64 a0_4, .int .i64 a0_5] (by rfl) rfl rfl aq ?_
       with_reducible refine (surmiseref05_For.calls k1 _ _ l0_0 _ _ l0_1 _ _ l0_2 _ _ l0_3 a0_4 a0_5 t516 _ ?side1 ?side2 ?side3 ?side4 ?side5 ?side6 ?side7 ?side8 A26.out).mono ?_
       (case side1 => exact kC HR0_0)
       (case side2 => exact HC0_0.out)
       (case side3 => exact kC HR0_1)
       (case side4 => exact HC0_1.out)
       (case side5 => exact kC HR0_2)
       (case side6 => exact HC0_2.out)
       (case side7 => exact kC HR0_3)
       (case side8 => exact HC0_3.out)
       rintro e w32 ⟨rfl, hb⟩
       refine ⟨_, rfl, ?_⟩
       have n0_ := Am (blk_below (kB BK509) hb)
       have n1_ := Am (blk_below (kB BK510) hb)
       have n2_ := Am (below_step (bs) hb)
       clear BK509
       clear BK510
       clear HB
       have BK509 := n0_
       have BK510 := n1_
       have HB := n2_
       clear n0_ n1_ n2_
       (try clear hb)
       (try clear hb2)
       (try clear hk)
       (try clear hi)
       refine hK.out _ _ ⟨(blk_cell BK510.out 0).trans rfl, (blk_cell BK510.out 1).trans rfl, (blk_cell BK510.out 2).trans rfl, (blk_cell BK510.out 3).trans rfl⟩ (fun hHeld => ?_)
       clear hK K
       refine norm_ (a' := ?_) ?_ ?_
       rotate_left
       ·
        show Act.put _ (some 47) _ = _
        simp only [Act.put, List.setIfInBounds_toArray, List.set_cons_zero, List.set_cons_succ, i64_w, i32_w]
        rfl
       refine pure_ (i := 10) (N := some 48) (v := ?_) (a' := ?_) #[true, true, true, true, true, true, true, true, true, true, true, false, false, false, false, false, false, false, false, false] rfl rfl (any_of HT_.out (by kernel_rfl)) (fun _ _ _ h => h) (Or.inl ⟨by rfl, ?_⟩) ?_ ?_
       rotate_left
       ·
        intro w'
        go_simp
        with_reducible rfl
       rotate_left
       ·
        simp only [Act.put, List.setIfInBounds_toArray, List.set_cons_zero, List.set_cons_succ, i64_w, i32_w]
        rfl
       refine pure_ (i := 11) (N := some 49) (v := ?_) (a' := ?_) #[true, true, true, true, true, true, true, true, true, true, true, true, false, false, false, false, false, false, false, false] rfl rfl (any_of HT_.out (by kernel_rfl)) (fun _ _ _ h => h) (Or.inl ⟨by rfl, ?_⟩) ?_ ?_
       rotate_left
       ·
        intro w'
        go_simp
        with_reducible rfl
       rotate_left
       ·
        simp only [Act.put, List.setIfInBounds_toArray, List.set_cons_zero, List.set_cons_succ, i64_w, i32_w]
        rfl
       refine pure_ (i := 12) (N := some 50) (v := ?_) (a' := ?_) #[true, true, true, true, true, true, true, true, true, true, true, true, true, false, false, false, false, false, false, false] rfl rfl (any_of HT_.out (by kernel_rfl)) (fun _ _ _ h => h) (Or.inl ⟨by rfl, ?_⟩) ?_ ?_
       rotate_left
       ·
        intro w'
        go_simp
        with_reducible rfl
       rotate_left
       ·
        simp only [Act.put, List.setIfInBounds_toArray, List.set_cons_zero, List.set_cons_succ, i64_w, i32_w]
        rfl
       refine pure_ (i := 14) (N := some 52) (v := ?_) (a' := ?_) #[true, true, true, true, true, true, true, true, true, true, true, true, true, false, true, false, false, false, false, false] rfl rfl (any_of HT_.out (by kernel_rfl)) (fun _ _ _ h => h) (Or.inl ⟨by rfl, ?_⟩) ?_ ?_
       rotate_left
       ·
        intro w'
        go_simp
        with_reducible rfl
       rotate_left
       ·
        simp only [Act.put, List.setIfInBounds_toArray, List.set_cons_zero, List.set_cons_succ, i64_w, i32_w]
        rfl
       refine pure_ (i := 16) (N := some 54) (v := ?_) (a' := ?_) #[true, true, true, true, true, true, true, true, true, true, true, true, true, false, true, false, true, false, false, false] rfl rfl (any_of HT_.out (by kernel_rfl)) (fun _ _ _ h => h) (Or.inl ⟨by rfl, ?_⟩) ?_ ?_
       rotate_left
       ·
        intro w'
        go_simp
        with_reducible rfl
       rotate_left
       ·
        simp only [Act.put, List.setIfInBounds_toArray, List.set_cons_zero, List.set_cons_succ, i64_w, i32_w]
        rfl
       refine take_ (i := 13) (N := some 51) (v := ?_) (a' := ?_) #[true, true, true, true, true, true, true, true, true, true, true, true, true, true, true, false, true, false, false, false] rfl rfl (take_ofW HT_.out HW_.out (by kernel_rfl)) (fun _ _ _ h => h) (Or.inl ⟨by rfl, ?_⟩) hHeld ?_ ?_
       rotate_left
       ·
        rintro w' ⟨s0, s1, s2, s3⟩
        go_simp
        with_reducible rfl
       rotate_left
       ·
        simp only [Act.put, List.setIfInBounds_toArray, List.set_cons_zero, List.set_cons_succ, i64_w, i32_w]
        rfl
       refine one_ (i := 15) (N := some 53) #[true, true, true, true, true, true, true, true, true, true, true, true, true, true, true, true, true, false, false, false] rfl rfl (one_of HT_.out (by kernel_rfl)) (by decide) (fun K hK => ?_)
       refine goes_ Try.func15 (by kernel_rfl) rfl #[.agg #[.slice A0_0 l0_0.length c0_0, .slice A0_1 l0_1.length c0_1, .slice A0_2 l0_2.length c0_2, .slice A0_3 l0_3.length c0_3], .string a0_6] (by rfl) rfl rfl aq ?_
       with_reducible refine (rules_Find.calls k1 _ _ l0_0 _ _ l0_1 _ _ l0_2 _ _ l0_3 a0_6 t517 _ ?side1 ?side2 ?side3 ?side4 ?side5 ?side6 ?side7 ?side8 A28.out).mono ?_
       (case side1 => exact kC HR0_0)
       (case side2 => exact HC0_0.out)
       (case side3 => exact kC HR0_1)
       (case side4 => exact HC0_1.out)
       (case side5 => exact kC HR0_2)
       (case side6 => exact HC0_2.out)
       (case side7 => exact kC HR0_3)
       (case side8 => exact HC0_3.out)
       rintro e w33 ⟨rfl, hb⟩
       refine ⟨_, rfl, ?_⟩
       have n0_ := Am (blk_below (kB BK509) hb)
       have n1_ := Am (blk_below (kB BK510) hb)
       have n2_ := Am (below_step (bs) hb)
       clear BK509
       clear BK510
       clear HB
       have BK509 := n0_
       have BK510 := n1_
       have HB := n2_
       clear n0_ n1_ n2_
       (try clear hb)
       (try clear hb2)
       (try clear hk)
       (try clear hi)
       refine hK.out _ _ ⟨(blk_cell BK510.out 0).trans rfl, (blk_cell BK510.out 1).trans rfl, (blk_cell BK510.out 2).trans rfl, (blk_cell BK510.out 3).trans rfl⟩ (fun hHeld => ?_)
       clear hK K
       refine norm_ (a' := ?_) ?_ ?_
       rotate_left
       ·
        show Act.put _ (some 53) _ = _
        simp only [Act.put, List.setIfInBounds_toArray, List.set_cons_zero, List.set_cons_succ, i64_w, i32_w]
        rfl
       refine pure_ (i := 17) (N := some 55) (v := ?_) (a' := ?_) #[true, true, true, true, true, true, true, true, true, true, true, true, true, true, true, true, true, true, false, false] rfl rfl (any_of HT_.out (by kernel_rfl)) (fun _ _ _ h => h) (Or.inl ⟨by rfl, ?_⟩) ?_ ?_
       rotate_left
       ·
        intro w'
        go_simp
        with_reducible rfl
       rotate_left
       ·
        simp only [Act.put, List.setIfInBounds_toArray, List.set_cons_zero, List.set_cons_succ, i64_w, i32_w]
        rfl
       refine pure_ (i := 18) (N := some 56) (v := ?_) (a' := ?_) #[true, true, true, true, true, true, true, true, true, true, true, true, true, true, true, true, true, true, true, false] rfl rfl (any_of HT_.out (by kernel_rfl)) (fun _ _ _ h => h) (Or.inl ⟨by rfl, ?_⟩) ?_ ?_
       rotate_left
       ·
        intro w'
        go_simp
        with_reducible rfl
       rotate_left
       ·
        simp only [Act.put, List.setIfInBounds_toArray, List.set_cons_zero, List.set_cons_succ, i64_w, i32_w]
        rfl
       refine pure_ (i := 19) (N := some 2) (v := ?_) (a' := ?_) #[true, true, true, true, true, true, true, true, true, true, true, true, true, true, true, true, true, true, true, true] rfl rfl (any_of HT_.out (by kernel_rfl)) (fun _ _ _ h => h) (Or.inl ⟨by rfl, ?_⟩) ?_ ?_
       rotate_left
       ·
        intro w'
        go_simp
        with_reducible rfl
       rotate_left
       ·
        simp only [Act.put, List.setIfInBounds_toArray, List.set_cons_zero, List.set_cons_succ, i64_w, i32_w]
        rfl
       refine done_ (done_of HT_.out (by kernel_rfl)) ?_
       try go_wp2
       go_ret
       exact ⟨xq, bs⟩
      ·
       rw [if_neg c27] at H
       have c27b0 : (t515 == t516) = false := by simpa using c27
       (try (have c27b1 : decide (t515 = t516) = false := by simpa using c27))
       (try (have c27b2 : (t515 == t516) = false := by simpa using c27))
       (try (have c27b3 : ¬ (t515 = t516) := by simpa using c27))
       clear c27
       exact absurd H (by simp)
     ·
      replace c24 := Bool.eq_false_iff.mpr c24
      subst c24
      have H1 : (none) = some r := by rw [if_neg (show ¬ (false = true) by decide)] at H; exact H
      clear H
      have H := H1
      clear H1
      exact absurd H (by simp)
 ·
  replace c3 := Bool.eq_false_iff.mpr c3
  subst c3
  have H1 : ((surmiselaw05_awake.f k).bind fun t512 => (some t512)) = some r := by rw [if_neg (show ¬ (false = true) by decide)] at H; exact H
  clear H
  have H := H1
  clear H1
  obtain ⟨t512, A340, H⟩ := Option.bind_eq_some_iff.mp H
  replace H : (some t512) = some r := H
  have A34 := Am A340
  clear A340
  obtain rfl := Option.some.inj H
  go_enter Try.func4, Try.ntmps4
  try go_wp2_with (first | ((with_reducible refine gate_dst (N := 1) rfl ?_); refine bxe (N := 1) (cs := #[.slice A0_0 l0_0.length c0_0, .slice A0_1 l0_1.length c0_1, .slice A0_2 l0_2.length c0_2, .slice A0_3 l0_3.length c0_3, .int .i64 a0_4, .int .i64 a0_5, .string a0_6]) (t := 34) ?_; intro gb509 hg w35 hbox hb; have n0_ := Am (below_step (bl) hb); have n1_ := Am (hbox); have n2_ := Am ((gE hg : w.heap.size ≤ gb509)); have n3_ := Am ((gE hg : w.heap.size ≤ gb509)); clear HB; have HB := n0_; have BK509 := n1_; have GW509 := n2_; have GE509 := n3_; clear n0_ n1_ n2_ n3_; clear hb hbox hg))
  have n0_ := Am (blk_drew BK509.out)
  have n1_ := Am (below_drew1 HB.out)
  clear BK509
  clear HB
  have BK509 := n0_
  have HB := n1_
  clear n0_ n1_
  refine start_ (n := 13) (S := fun w' => w'.cell? ⟨gb509, 0, none⟩ = some (.slice A0_0 l0_0.length c0_0) ∧ w'.cell? ⟨gb509, 1, none⟩ = some (.slice A0_1 l0_1.length c0_1) ∧ w'.cell? ⟨gb509, 2, none⟩ = some (.slice A0_2 l0_2.length c0_2) ∧ w'.cell? ⟨gb509, 3, none⟩ = some (.slice A0_3 l0_3.length c0_3) ∧ w'.cell? ⟨gb509, 4, none⟩ = some (.int .i64 a0_4) ∧ w'.cell? ⟨gb509, 5, none⟩ = some (.int .i64 a0_5) ∧ w'.cell? ⟨gb509, 6, none⟩ = some (.string a0_6)) (ds := []) #[false, false, false, false, false, false, false, false, false, false, false, false, false] (by kernel_rfl) rfl rfl ⟨(blk_cell BK509.out 0).trans rfl, (blk_cell BK509.out 1).trans rfl, (blk_cell BK509.out 2).trans rfl, (blk_cell BK509.out 3).trans rfl, (blk_cell BK509.out 4).trans rfl, (blk_cell BK509.out 5).trans rfl, (blk_cell BK509.out 6).trans rfl⟩ (fun hHeld => ?_); refine with_tabW surmiselaw05_RulesFor.tab1 surmiselaw05_RulesFor.bits1 (fun HT_ HW_ => ?_)
  generalize w35.drew = w36 at BK509 HB hHeld ⊢
  refine pure_ (i := 0) (N := some 9) (v := ?_) (a' := ?_) #[true, false, false, false, false, false, false, false, false, false, false, false, false] rfl rfl (any_of HT_.out (by kernel_rfl)) (fun _ _ _ h => h) (Or.inl ⟨by rfl, ?_⟩) ?_ ?_
  rotate_left
  ·
   intro w'
   go_simp
   with_reducible rfl
  rotate_left
  ·
   simp only [Act.put, List.setIfInBounds_toArray, List.set_cons_zero, List.set_cons_succ, i64_w, i32_w]
   rfl
  refine pure_ (i := 2) (N := some 11) (v := ?_) (a' := ?_) #[true, false, true, false, false, false, false, false, false, false, false, false, false] rfl rfl (any_of HT_.out (by kernel_rfl)) (fun _ _ _ h => h) (Or.inl ⟨by rfl, ?_⟩) ?_ ?_
  rotate_left
  ·
   intro w'
   go_simp
   with_reducible rfl
  rotate_left
  ·
   simp only [Act.put, List.setIfInBounds_toArray, List.set_cons_zero, List.set_cons_succ, i64_w, i32_w]
   rfl
  refine pure_ (i := 4) (N := some 13) (v := ?_) (a' := ?_) #[true, false, true, false, true, false, false, false, false, false, false, false, false] rfl rfl (any_of HT_.out (by kernel_rfl)) (fun _ _ _ h => h) (Or.inl ⟨by rfl, ?_⟩) ?_ ?_
  rotate_left
  ·
   intro w'
   go_simp
   with_reducible rfl
  rotate_left
  ·
   simp only [Act.put, List.setIfInBounds_toArray, List.set_cons_zero, List.set_cons_succ, i64_w, i32_w]
   rfl
  refine pure_ (i := 6) (N := some 15) (v := ?_) (a' := ?_) #[true, false, true, false, true, false, true, false, false, false, false, false, false] rfl rfl (any_of HT_.out (by kernel_rfl)) (fun _ _ _ h => h) (Or.inl ⟨by rfl, ?_⟩) ?_ ?_
  rotate_left
  ·
   intro w'
   go_simp
   with_reducible rfl
  rotate_left
  ·
   simp only [Act.put, List.setIfInBounds_toArray, List.set_cons_zero, List.set_cons_succ, i64_w, i32_w]
   rfl
  refine take_ (i := 1) (N := some 10) (v := ?_) (a' := ?_) #[true, true, true, false, true, false, true, false, false, false, false, false, false] rfl rfl (take_ofW HT_.out HW_.out (by kernel_rfl)) (fun _ _ _ h => h) (Or.inl ⟨by rfl, ?_⟩) hHeld ?_ ?_
  rotate_left
  ·
   rintro w' ⟨s0, s1, s2, s3, s4, s5, s6⟩
   go_simp
   with_reducible rfl
  rotate_left
  ·
   simp only [Act.put, List.setIfInBounds_toArray, List.set_cons_zero, List.set_cons_succ, i64_w, i32_w]
   rfl
  refine take_ (i := 3) (N := some 12) (v := ?_) (a' := ?_) #[true, true, true, true, true, false, true, false, false, false, false, false, false] rfl rfl (take_ofW HT_.out HW_.out (by kernel_rfl)) (fun _ _ _ h => h) (Or.inl ⟨by rfl, ?_⟩) hHeld ?_ ?_
  rotate_left
  ·
   rintro w' ⟨s0, s1, s2, s3, s4, s5, s6⟩
   go_simp
   with_reducible rfl
  rotate_left
  ·
   simp only [Act.put, List.setIfInBounds_toArray, List.set_cons_zero, List.set_cons_succ, i64_w, i32_w]
   rfl
  refine take_ (i := 5) (N := some 14) (v := ?_) (a' := ?_) #[true, true, true, true, true, true, true, false, false, false, false, false, false] rfl rfl (take_ofW HT_.out HW_.out (by kernel_rfl)) (fun _ _ _ h => h) (Or.inl ⟨by rfl, ?_⟩) hHeld ?_ ?_
  rotate_left
  ·
   rintro w' ⟨s0, s1, s2, s3, s4, s5, s6⟩
   go_simp
   with_reducible rfl
  rotate_left
  ·
   simp only [Act.put, List.setIfInBounds_toArray, List.set_cons_zero, List.set_cons_succ, i64_w, i32_w]
   rfl
  refine take_ (i := 7) (N := some 16) (v := ?_) (a' := ?_) #[true, true, true, true, true, true, true, true, false, false, false, false, false] rfl rfl (take_ofW HT_.out HW_.out (by kernel_rfl)) (fun _ _ _ h => h) (Or.inl ⟨by rfl, ?_⟩) hHeld ?_ ?_
  rotate_left
  ·
   rintro w' ⟨s0, s1, s2, s3, s4, s5, s6⟩
   go_simp
   with_reducible rfl
  rotate_left
  ·
   simp only [Act.put, List.setIfInBounds_toArray, List.set_cons_zero, List.set_cons_succ, i64_w, i32_w]
   rfl
  refine one_ (i := 8) (N := some 3) #[true, true, true, true, true, true, true, true, true, false, false, false, false] rfl rfl (one_of HT_.out (by kernel_rfl)) (by decide) (fun K hK => ?_)
  refine box_step ?hg (N := 3) ?hd (cs := #[.slice none 0 0, .slice none 0 0, .slice none 0 0, .slice none 0 0]) (t := 26) ?hr ?_; (case hd => rfl); (case hg => rfl); (case hr => first | (go_simp; done) | (go_simp; rfl))
  intro gb510 hg w37 hbox hb
  have n0_ := Am (blk_below (kB BK509) hb)
  have n1_ := Am (below_step (bs) hb)
  have n2_ := Am (hbox)
  have n3_ := Am ((gE hg : w.heap.size ≤ gb510))
  have n4_ := Am ((gE hg : w.heap.size ≤ gb510))
  have n5_ := Am (nL hg BK509)
  have n6_ := Am (nG hg BK509)
  clear BK509
  clear HB
  have BK509 := n0_
  have HB := n1_
  have BK510 := n2_
  have GW510 := n3_
  have GE510 := n4_
  have NB509_510 := n5_
  have NB510_509 := n6_
  clear n0_ n1_ n2_ n3_ n4_ n5_ n6_
  clear hb hbox hg
  refine hK.out _ _ ⟨(blk_cell BK509.out 0).trans rfl, (blk_cell BK509.out 1).trans rfl, (blk_cell BK509.out 2).trans rfl, (blk_cell BK509.out 3).trans rfl, (blk_cell BK509.out 4).trans rfl, (blk_cell BK509.out 5).trans rfl, (blk_cell BK509.out 6).trans rfl⟩ (fun hHeld => ?_)
  clear hK K
  refine norm_ (a' := ?_) ?_ ?_
  rotate_left
  ·
   show Act.put _ (some 3) _ = _
   simp only [Act.put, List.setIfInBounds_toArray, List.set_cons_zero, List.set_cons_succ, i64_w, i32_w]
   rfl
  refine one_ (i := 9) (N := none) #[true, true, true, true, true, true, true, true, true, true, false, false, false] rfl rfl (one_of HT_.out (by kernel_rfl)) (by decide) (fun K hK => ?_)
  have hs38 : w37.cell? ⟨gb510, 0, none⟩ = some (.slice none 0 0) := (blk_cell BK510.out 0).trans rfl
  have hfs38 := fz BK510 0
  have hns38_0 := NB509_510.out
  have hms38_0 := NB510_509.out
  have hs39 : w37.cell? ⟨gb510, 1, none⟩ = some (.slice none 0 0) := (blk_cell BK510.out 1).trans rfl
  have hfs39 := fz BK510 1
  have hns39_0 := NB509_510.out
  have hms39_0 := NB510_509.out
  have hs40 : w37.cell? ⟨gb510, 2, none⟩ = some (.slice none 0 0) := (blk_cell BK510.out 2).trans rfl
  have hfs40 := fz BK510 2
  have hns40_0 := NB509_510.out
  have hms40_0 := NB510_509.out
  have hs41 : w37.cell? ⟨gb510, 3, none⟩ = some (.slice none 0 0) := (blk_cell BK510.out 3).trans rfl
  have hfs41 := fz BK510 3
  have hns41_0 := NB509_510.out
  have hms41_0 := NB510_509.out
  refine skip_ (w1 := ?_) (by rfl) rfl ?_ ?_
  rotate_left
  ·
   go_simp
   rfl
  refine hK.out _ _ ⟨((cell_far (p := ⟨gb510, _, none⟩) NB509_510.out _).trans (((cell_far (p := ⟨gb510, _, none⟩) NB509_510.out _).trans (((cell_far (p := ⟨gb510, _, none⟩) NB509_510.out _).trans (((cell_far (p := ⟨gb510, _, none⟩) NB509_510.out _).trans (hHeld.1)))))))), ((cell_far (p := ⟨gb510, _, none⟩) NB509_510.out _).trans (((cell_far (p := ⟨gb510, _, none⟩) NB509_510.out _).trans (((cell_far (p := ⟨gb510, _, none⟩) NB509_510.out _).trans (((cell_far (p := ⟨gb510, _, none⟩) NB509_510.out _).trans (hHeld.2.1)))))))), ((cell_far (p := ⟨gb510, _, none⟩) NB509_510.out _).trans (((cell_far (p := ⟨gb510, _, none⟩) NB509_510.out _).trans (((cell_far (p := ⟨gb510, _, none⟩) NB509_510.out _).trans (((cell_far (p := ⟨gb510, _, none⟩) NB509_510.out _).trans (hHeld.2.2.1)))))))), ((cell_far (p := ⟨gb510, _, none⟩) NB509_510.out _).trans (((cell_far (p := ⟨gb510, _, none⟩) NB509_510.out _).trans (((cell_far (p := ⟨gb510, _, none⟩) NB509_510.out _).trans (((cell_far (p := ⟨gb510, _, none⟩) NB509_510.out _).trans (hHeld.2.2.2.1)))))))), ((cell_far (p := ⟨gb510, _, none⟩) NB509_510.out _).trans (((cell_far (p := ⟨gb510, _, none⟩) NB509_510.out _).trans (((cell_far (p := ⟨gb510, _, none⟩) NB509_510.out _).trans (((cell_far (p := ⟨gb510, _, none⟩) NB509_510.out _).trans (hHeld.2.2.2.2.1)))))))), ((cell_far (p := ⟨gb510, _, none⟩) NB509_510.out _).trans (((cell_far (p := ⟨gb510, _, none⟩) NB509_510.out _).trans (((cell_far (p := ⟨gb510, _, none⟩) NB509_510.out _).trans (((cell_far (p := ⟨gb510, _, none⟩) NB509_510.out _).trans (hHeld.2.2.2.2.2.1)))))))), ((cell_far (p := ⟨gb510, _, none⟩) NB509_510.out _).trans (((cell_far (p := ⟨gb510, _, none⟩) NB509_510.out _).trans (((cell_far (p := ⟨gb510, _, none⟩) NB509_510.out _).trans (((cell_far (p := ⟨gb510, _, none⟩) NB509_510.out _).trans (hHeld.2.2.2.2.2.2))))))))⟩ (fun hHeld => ?_)
  clear hK K
  refine pure_ (i := 10) (N := some 4) (v := ?_) (a' := ?_) #[true, true, true, true, true, true, true, true, true, true, true, false, false] rfl rfl (any_of HT_.out (by kernel_rfl)) (fun _ _ _ h => h) (Or.inl ⟨by rfl, ?_⟩) ?_ ?_
  rotate_left
  ·
   intro w'
   go_simp
   with_reducible rfl
  rotate_left
  ·
   simp only [Act.put, List.setIfInBounds_toArray, List.set_cons_zero, List.set_cons_succ, i64_w, i32_w]
   rfl
  refine pure_ (i := 11) (N := some 5) (v := ?_) (a' := ?_) #[true, true, true, true, true, true, true, true, true, true, true, true, false] rfl rfl (any_of HT_.out (by kernel_rfl)) (fun _ _ _ h => h) (Or.inl ⟨by rfl, ?_⟩) ?_ ?_
  rotate_left
  ·
   intro w'
   go_simp
   with_reducible rfl
  rotate_left
  ·
   simp only [Act.put, List.setIfInBounds_toArray, List.set_cons_zero, List.set_cons_succ, i64_w, i32_w]
   rfl
  refine pure_ (i := 12) (N := some 6) (v := ?_) (a' := ?_) #[true, true, true, true, true, true, true, true, true, true, true, true, true] rfl rfl (any_of HT_.out (by kernel_rfl)) (fun _ _ _ h => h) (Or.inl ⟨by rfl, ?_⟩) ?_ ?_
  rotate_left
  ·
   intro w'
   go_simp
   with_reducible rfl
  rotate_left
  ·
   simp only [Act.put, List.setIfInBounds_toArray, List.set_cons_zero, List.set_cons_succ, i64_w, i32_w]
   rfl
  refine done_ (done_of HT_.out (by kernel_rfl)) ?_
  have hnb42 := NB510_509.out
  have hnc42 := NB509_510.out
  have hcz43_0 := cz0 BK510.out
  have hcz43_1 := cz1 BK510.out
  have hcz43_2 := cz2 BK510.out
  have hcz43_3 := cz3 BK510.out
  have hfz43_0 := fz BK510 0
  have hfz43_1 := fz BK510 1
  have hfz43_2 := fz BK510 2
  have hfz43_3 := fz BK510 3
  try go_wp2_with (first | ((with_reducible refine gate_callee (f := 12) rfl ?_); refine goesL_ (some 18) rfl rfl Try.func12 (by kernel_rfl) rfl #[.agg #[.slice A0_0 l0_0.length c0_0, .slice A0_1 l0_1.length c0_1, .slice A0_2 l0_2.length c0_2, .slice A0_3 l0_3.length c0_3]] rfl aq ?_; (with_reducible refine (surmiselaw05_light.calls k _ _ l0_0 _ _ l0_1 _ _ l0_2 _ _ l0_3 false _ ?side1 ?side2 ?side3 ?side4 ?side5 ?side6 ?side7 ?side8 A2.out).mono ?_); (case side1 => exact Kd.C_below HR0_0.out (bs)); (case side2 => exact HC0_0.out); (case side3 => exact Kd.C_below HR0_1.out (bs)); (case side4 => exact HC0_1.out); (case side5 => exact Kd.C_below HR0_2.out (bs)); (case side6 => exact HC0_2.out); (case side7 => exact Kd.C_below HR0_3.out (bs)); (case side8 => exact HC0_3.out); rintro e w44 ⟨rfl, hb⟩; refine ⟨_, rfl, ?_⟩; have n0_ := Am (blk_below (kZ BK509) hb); have n1_ := Am (blk_below (g := gb510) (o := .cells #[.slice A0_0 l0_0.length c0_0, .slice A0_1 l0_1.length c0_1, .slice A0_2 l0_2.length c0_2, .slice A0_3 l0_3.length c0_3] 26 (0, 0)) (by (with_reducible repeat (first | refine blk_drewN ?_ _ | refine blk_drew ?_ | refine blk_alloc ?_ _)); refine blk_put (cs := #[.slice A0_0 l0_0.length c0_0, .slice A0_1 l0_1.length c0_1, .slice A0_2 l0_2.length c0_2, .slice none 0 0]) ?_ 3 _ rfl; (with_reducible repeat (first | refine blk_drewN ?_ _ | refine blk_drew ?_ | refine blk_alloc ?_ _)); refine blk_put (cs := #[.slice A0_0 l0_0.length c0_0, .slice A0_1 l0_1.length c0_1, .slice none 0 0, .slice none 0 0]) ?_ 2 _ rfl; (with_reducible repeat (first | refine blk_drewN ?_ _ | refine blk_drew ?_ | refine blk_alloc ?_ _)); refine blk_put (cs := #[.slice A0_0 l0_0.length c0_0, .slice none 0 0, .slice none 0 0, .slice none 0 0]) ?_ 1 _ rfl; (with_reducible repeat (first | refine blk_drewN ?_ _ | refine blk_drew ?_ | refine blk_alloc ?_ _)); refine blk_put (cs := #[.slice none 0 0, .slice none 0 0, .slice none 0 0, .slice none 0 0]) ?_ 0 _ rfl; (with_reducible repeat (first | refine blk_drewN ?_ _ | refine blk_drew ?_ | refine blk_alloc ?_ _)); exact BK510.out) hb); have n2_ := Am (below_step (bs) hb); clear BK509; clear BK510; clear HB; have BK509 := n0_; have BK510 := n1_; have HB := n2_; clear n0_ n1_ n2_; (try clear hb); (try clear hb2); (try clear hk); (try clear hi)) | ((with_reducible refine gate_callee (f := 9) rfl ?_); refine goesL_ (some 20) rfl rfl Try.func9 (by kernel_rfl) rfl #[] rfl aq ?_; (with_reducible refine (surmiselaw05_awake.calls k  t512 _ A34.out).mono ?_); rintro e w45 ⟨rfl, hb⟩; refine ⟨_, rfl, ?_⟩; have n0_ := Am (blk_below (kB BK509) hb); have n1_ := Am (blk_below (kB BK510) hb); have n2_ := Am (below_step (bs) hb); clear BK509; clear BK510; clear HB; have BK509 := n0_; have BK510 := n1_; have HB := n2_; clear n0_ n1_ n2_; (try clear hb); (try clear hb2); (try clear hk); (try clear hi)))
  go_ret
  exact ⟨xq, bs⟩

end Go.Proofs.Ytdfhbmallnegfaa.PA
