-- Written by a program (wip/tools/gprint.py: a patched copy of the kit's print) and by hand, for this claim
import Derived.Test.YthhnecbfcpmpbaaPAx0
import Derived.Test.YthhnecbfcpmpbaaPAx1
import Derived.Test.YthhnecbfcpmpbaaPAx2
import Derived.Test.YthhnecbfcpmpbaaPAx3
import Derived.Test.YthhnecbfcpmpbaaPAx4
import Derived.Test.YthhnecbfcpmpbaaPAx5
namespace Go.Proofs.Ythhnecbfcpmpbaa.PA
open Go.RowKit Go.Proofs.YthhnecbfcpmpbaaW.PrintWords Go.Proofs.YthhnecbfcpmpbaaW.PrintLast Go.Proofs.YthhnecbfcpmpbaaW.PrintMore
attribute [local go_sem] max2_int min2_int max_two min_two max_three min_three max_four min_four   -- for this text's walks alone
set_option linter.unusedVariables false
set_option linter.unusedSimpArgs false

attribute [local go_sem high] eqA45
/-! ### expr_Fold: function 13 -/
mutual
def expr_Fold.l0 : Nat → List (S45) → List (S45) → Int → Int → Option ((List (S45)))
 | 0, _, _, _, _ => none
 | k + 1, x6, x25, x26, x27 => if x27 < x26 then (if 0 ≤ x27 then (if x27 < (x25.length : Int) then ((expr_takes.f k ((rd_T45 x25 x27).f0)).bind fun t171 => ((expr_consts.f k x6 t171).bind fun bt172 => (if t171 > 0 then (expr_Fold.j1 k x6 t171 bt172.1 x25 x26 x27 bt172.2 ((rd_T45 x25 x27).f0) ((rd_T45 x25 x27).f1)) else (expr_Fold.j1 k x6 t171 bt172.1 x25 x26 x27 false ((rd_T45 x25 x27).f0) ((rd_T45 x25 x27).f1))))) else (none)) else (none)) else (some x6)
def expr_Fold.j1 : Nat → List (S45) → Int → List Int → List (S45) → Int → Int → Bool → Int → Int → Option ((List (S45)))
 | 0, _, _, _, _, _, _, _, _, _ => none
 | k + 1, x6, x9, x10, x25, x26, x27, x44, x171000, x171001 => if x44 = true then ((expr_made.f k x171000 x10).bind fun bt176 => (if bt176.2 = true then (if 0 ≤ (wrap64 ((x6.length : Int) - x9)) then (if (wrap64 ((x6.length : Int) - x9)) ≤ (x6.length : Int) then ((some (x6.take ((wrap64 ((x6.length : Int) - x9)) : Int).toNat : List (S45))).bind fun y178 => (if y178.length < 8796093022208 then (expr_Fold.l0 k (y178 ++ [(⟨1, bt176.1⟩ : S45)]) x25 x26 (wrap64 (x27 + 1))) else (none))) else (none)) else (none)) else (if x6.length < 8796093022208 then (expr_Fold.l0 k (x6 ++ [(⟨x171000, x171001⟩ : S45)]) x25 x26 (wrap64 (x27 + 1))) else (none)))) else (if x6.length < 8796093022208 then (expr_Fold.l0 k (x6 ++ [(⟨x171000, x171001⟩ : S45)]) x25 x26 (wrap64 (x27 + 1))) else (none))
end
def expr_Fold.f (k : Nat) (l0 : List (S45)) : Option ((List (S45))) := (some (([] : List (S45)) : List (S45))).bind fun y161 => (if y161.length + l0.length < 8796093022208 then ((some (y161 ++ l0 : List (S45))).bind fun y164 => ((expr_Check.f k l0 9223372036854775807 9223372036854775807).bind fun bt167 => (if bt167.2 = 0 then (expr_Fold.l0 k ([] : List (S45)) y164 (y164.length : Int) 0) else (some y164)))) else (none))
theorem expr_Fold.mono_l : ∀ k, (∀ y0 y1 y2 y3, LeO (expr_Fold.l0 k y0 y1 y2 y3) (expr_Fold.l0 (k + 1) y0 y1 y2 y3)) ∧ (∀ y0 y1 y2 y3 y4 y5 y6 y7 y8, LeO (expr_Fold.j1 k y0 y1 y2 y3 y4 y5 y6 y7 y8) (expr_Fold.j1 (k + 1) y0 y1 y2 y3 y4 y5 y6 y7 y8))
 | 0 => ⟨fun _ _ _ _ r h => by simp [expr_Fold.l0] at h, fun _ _ _ _ _ _ _ _ _ r h => by simp [expr_Fold.j1] at h⟩
 | k + 1 => by
  obtain ⟨ih0, ih1⟩ := expr_Fold.mono_l k
  refine ⟨?_, ?_⟩
  ·
   intro y0 y1 y2 y3
   unfold expr_Fold.l0
   repeat' first
   | (with_reducible exact ih0 _ _ _ _)
   | (with_reducible exact ih1 _ _ _ _ _ _ _ _ _)
   | (with_reducible exact expr_Check.mono _ _ _ _)
   | (with_reducible exact expr_consts.mono _ _ _)
   | (with_reducible exact expr_made.mono _ _ _)
   | (with_reducible exact expr_takes.mono _ _)
   | (with_reducible exact LeO.refl _)
   | (with_reducible exact LeO.none _)
   | (with_reducible refine LeO.ite ?_ ?_)
   | (with_reducible refine LeO.bind ?_ (fun _ => ?_))
   | exact ih0 _ _ _ _
   | exact ih1 _ _ _ _ _ _ _ _ _
   | exact expr_Check.mono _ _ _ _
   | exact expr_consts.mono _ _ _
   | exact expr_made.mono _ _ _
   | exact expr_takes.mono _ _
   | exact LeO.none _
   | refine LeO.ite ?_ ?_
   | refine LeO.bind ?_ (fun _ => ?_)
  ·
   intro y0 y1 y2 y3 y4 y5 y6 y7 y8
   unfold expr_Fold.j1
   repeat' first
   | (with_reducible exact ih0 _ _ _ _)
   | (with_reducible exact ih1 _ _ _ _ _ _ _ _ _)
   | (with_reducible exact expr_Check.mono _ _ _ _)
   | (with_reducible exact expr_consts.mono _ _ _)
   | (with_reducible exact expr_made.mono _ _ _)
   | (with_reducible exact expr_takes.mono _ _)
   | (with_reducible exact LeO.refl _)
   | (with_reducible exact LeO.none _)
   | (with_reducible refine LeO.ite ?_ ?_)
   | (with_reducible refine LeO.bind ?_ (fun _ => ?_))
   | exact ih0 _ _ _ _
   | exact ih1 _ _ _ _ _ _ _ _ _
   | exact expr_Check.mono _ _ _ _
   | exact expr_consts.mono _ _ _
   | exact expr_made.mono _ _ _
   | exact expr_takes.mono _ _
   | exact LeO.none _
   | refine LeO.ite ?_ ?_
   | refine LeO.bind ?_ (fun _ => ?_)
theorem expr_Fold.mono : ∀ a0 k, LeO (expr_Fold.f k a0) (expr_Fold.f (k + 1) a0) := by
 intro a0 k
 obtain ⟨ih0, ih1⟩ := expr_Fold.mono_l k
 unfold expr_Fold.f
 repeat' first
   | (with_reducible exact ih0 _ _ _ _)
   | (with_reducible exact ih1 _ _ _ _ _ _ _ _ _)
   | (with_reducible exact expr_Check.mono _ _ _ _)
   | (with_reducible exact expr_consts.mono _ _ _)
   | (with_reducible exact expr_made.mono _ _ _)
   | (with_reducible exact expr_takes.mono _ _)
   | (with_reducible exact LeO.refl _)
   | (with_reducible exact LeO.none _)
   | (with_reducible refine LeO.ite ?_ ?_)
   | (with_reducible refine LeO.bind ?_ (fun _ => ?_))
   | exact ih0 _ _ _ _
   | exact ih1 _ _ _ _ _ _ _ _ _
   | exact expr_Check.mono _ _ _ _
   | exact expr_consts.mono _ _ _
   | exact expr_made.mono _ _ _
   | exact expr_takes.mono _ _
   | exact LeO.none _
   | refine LeO.ite ?_ ?_
   | refine LeO.bind ?_ (fun _ => ?_)
set_option maxHeartbeats 8000000 in
set_option maxRecDepth 100000 in
theorem expr_Fold.calls (k : Nat) (A0 : Option Addr) (c0 : Nat) (l0 : List (S45)) (r : List (S45)) (w : World) (hr0 : Kd.C k45 w A0 l0.length l0) (hc0 : l0.length ≤ c0) (h : expr_Fold.f k l0 = some r) :
  Calls Try.prog 13 #[.slice A0 l0.length c0] w fun e w' => ∃ v0_ : Value, e = .returned (v0_) ∧ Kd.R k45 45 w' w.heap.size (fun _ => True) v0_ r ∧ Below w.heap.size w w' := by
 have hu45 := Try.underlying45
 have HR0 := Am hr0
 have HC0 := Am hc0
 clear hr0 hc0
 have HB := Am (Below.refl w.heap.size w)
 have H : ((some (([] : List (S45)) : List (S45))).bind fun y161 => (if y161.length + l0.length < 8796093022208 then ((some (y161 ++ l0 : List (S45))).bind fun y164 => ((expr_Check.f k l0 9223372036854775807 9223372036854775807).bind fun bt167 => (if bt167.2 = 0 then (expr_Fold.l0 k ([] : List (S45)) y164 (y164.length : Int) 0) else (some y164)))) else (none))) = some r := h
 clear h
 obtain ⟨y161, hy161⟩ : ∃ y_ : List (S45), y_ = (([] : List (S45))) := ⟨_, rfl⟩
 replace H : (if y161.length + l0.length < 8796093022208 then ((some (y161 ++ l0 : List (S45))).bind fun y164 => ((expr_Check.f k l0 9223372036854775807 9223372036854775807).bind fun bt167 => (if bt167.2 = 0 then (expr_Fold.l0 k ([] : List (S45)) y164 (y164.length : Int) 0) else (some y164)))) else (none)) = some r := by first | (rw [hy161]; with_reducible exact H) | (have H2_ := (Option.bind_some _ _).symm.trans H; rw [hy161]; with_reducible exact H2_) | (have H2_ := (Option.bind_some _ _).symm.trans H; with_reducible exact H2_) | with_reducible exact H | (rw [hy161]; exact H) | exact H
 have Ny161 := Am hy161
 clear hy161
 by_cases c2 : y161.length + l0.length < 8796093022208
 ·
  rw [if_pos c2] at H
  have LMc2 := Am c2
  clear c2
  obtain ⟨y164, hy164⟩ : ∃ y_ : List (S45), y_ = (y161 ++ l0) := ⟨_, rfl⟩
  replace H : ((expr_Check.f k l0 9223372036854775807 9223372036854775807).bind fun bt167 => (if bt167.2 = 0 then (expr_Fold.l0 k ([] : List (S45)) y164 (y164.length : Int) 0) else (some y164))) = some r := by first | (rw [hy164]; with_reducible exact H) | (have H2_ := (Option.bind_some _ _).symm.trans H; rw [hy164]; with_reducible exact H2_) | (have H2_ := (Option.bind_some _ _).symm.trans H; with_reducible exact H2_) | with_reducible exact H | (rw [hy164]; exact H) | exact H
  have Ny164 := Am hy164
  clear hy164
  replace H := Option.bind_eq_some_iff.mp H
  obtain ⟨⟨t167, t168⟩, A30, H⟩ := H
  replace H : (if t168 = 0 then (expr_Fold.l0 k ([] : List (S45)) y164 (y164.length : Int) 0) else (some y164)) = some r := H
  have A3 := Am A30
  clear A30
  by_cases c4 : t168 = 0
  ·
   rw [if_pos c4] at H
   have c4b0 : (t168 == 0) = true := beq_iff_eq.mpr c4
   have c4b1 : (t168 != 0) = false := bne_eq_false_iff_eq.mpr c4
   clear c4
   have H' := Am H
   clear H
   go_enter Try.func13, Try.ntmps13
   go_wp2_with (first | ((with_reducible refine gate_dst (N := 14) rfl ?_); refine Kd.R_lit k45 _ 45 ?hg (N := 14) ?hd (xs := ([] : List (S45))) (inner := []) (ok := fun _ => True) (okp := fun _ => True) ?hr ?hp (fun _ hk => hk) trivial (Below.refl _ _) (Nat.le_refl _) (by simp) ?_; (case hd => rfl); (case hg => rfl); (case hr => first | (go_simp; done) | (go_simp; rfl)); (case hp => exact (Reps.none _ _)); intro v162 w5 ho6 hb hg_ hnew_; clear hg_ hnew_; (first | rw [← Ny161.out] at ho6 | (simp only [Int.reduceToNat] at ho6; rw [← Ny161.out] at ho6)); have n0_ := Am (Kd.R_lower ho6 (below_size (bl))); have n1_ := Am (below_step (bl) hb); clear HB; have HO163 := n0_; have HB := n1_; clear n0_ n1_; clear hb ho6) | ((with_reducible refine gate_builtin (b := .append) (xs := #[.tmp 14, .tmp 15]) rfl ?_); at_builtin; refine Kd.R_append_rows k45 (w0 := w) w.heap.size rfl (.tmp 14) (.tmp 15) 22 45 (.agg #[(.int .i64 0), (.int .i64 0)]) 16 rfl Try.underlying22 info45 rfl (by decide) (by omega) v162 y161 l0 _ _ _ (fun _ => True) (fun _ => False) rfl rfl ?aO ?aR (fun _ _ h => h) (fun _ h => h.elim) ?aF ?aB ?aS ?aL ?_; (case aR => repeat (first | exact (Kd.C_below HR0.out HB.out) | (with_reducible refine Kd.C_alloc ?_ _) | (with_reducible refine Kd.C_drewN ?_ _) | (with_reducible refine Kd.C_drew ?_))); (case aB => exact (bl)); (case aF => exact (fun _ _ => trivial)); (case aO => exact (kR HO163)); (case aS => exact (below_size (bl))); (case aL => have := LMc2.out; omega); intro v165 w7 ho hb hg hat; rw [← Ny164.out] at ho; have n0_ := Am (hb); have n1_ := Am (ho); clear HB; clear HO163; have HB := n0_; have HO166 := n1_; clear n0_ n1_; clear ho hb hg hat) | ((with_reducible refine gate_callee (f := 8) rfl ?_); refine goesL_ (some 19) rfl rfl Try.func8 (by kernel_rfl) rfl #[.slice A0 l0.length c0, .int .i64 9223372036854775807, .int .i64 9223372036854775807] rfl aq ?_; (with_reducible refine (expr_Check.calls k _ _ l0 9223372036854775807 9223372036854775807 t167 t168 _ ?side1 ?side2 A3.out).mono ?_); (case side1 => repeat (first | exact (Kd.C_below HR0.out HB.out) | (with_reducible refine Kd.C_alloc ?_ _) | (with_reducible refine Kd.C_drewN ?_ _) | (with_reducible refine Kd.C_drew ?_))); (case side2 => exact HC0.out); rintro e w8 ⟨rfl, hb⟩; refine ⟨_, rfl, ?_⟩; have n0_ := Am (Kd.R_below (kR HO166) hb); have n1_ := Am (below_step (bl) hb); clear HO166; clear HB; have HO166 := n0_; have HB := n1_; clear n0_ n1_; (try clear hb); (try clear hb2); (try clear hk); (try clear hi); obtain ⟨Ao9, co9, eo9⟩ := Kd.R_slice HO166.out; subst eo9))
   go_loopg [6, 27] k (fun kq v6 v27 w' => ∃ (x6_1 : List (S45)) (x27_1 : Int), v27 = .int .i64 x27_1 ∧ Aside0 (expr_Fold.l0 kq x6_1 y164 (y164.length : Int) x27_1 = some r) ∧ Aside0 (kq ≤ k) ∧ Aside0 (Kd.R k45 45 w' w.heap.size (fun k_ => some k_ ≠ ((.slice Ao9 y164.length co9) : Value).ownBlock) v6 x6_1) ∧ Aside0 (Kd.R k45 45 w' w.heap.size (fun k_ => some k_ ≠ (v6 : Value).ownBlock) (.slice Ao9 y164.length co9) y164) ∧ Aside0 (Below w.heap.size w w'))
   case atStart => exact ⟨(([] : List (S45))), (0), rq, H', ⟨Nat.le_refl _⟩, ⟨by first | exact Kd.R_nil _ _ _ _ _ | exact Kd.N_nil _ _ _ _ _ | exact Kd.V_nil _ _ _ _ _ | exact Kd.Q_nil _ _ _ _ _ | exact Kd.S_nil _ _ _ _ _⟩, ⟨by (with_reducible repeat (first | apply Kd.R_alloc | apply Kd.R_drewN | apply Kd.R_drew)); exact Kd.R_mono HO166.out (fun _ hk => (by simp [Value.ownBlock]))⟩, ⟨bl⟩⟩
   case round =>
    clear H'
    try clear c1
    try clear c2
    try clear p2
    try clear c4
    try clear c4b0
    try clear c4b1
    try clear c8
    obtain ⟨x6_1, x27_1, rfl, HA, HK1, HO_6, HO_25, HB⟩ := hrel
    cases gk with
    | zero => exact absurd HA.out (by simp [expr_Fold.l0])
    | succ k1 =>
     have H := HA.out
     clear HA
     simp only [expr_Fold.l0] at H
     by_cases c10 : x27_1 < (y164.length : Int)
     ·
      rw [if_pos c10] at H
      have c10b0 : decide (x27_1 < (y164.length : Int)) = true := decide_eq_true c10
      clear c10
      by_cases c11 : 0 ≤ x27_1
      ·
       rw [if_pos c11] at H
       have c11b0 : decide (0 ≤ x27_1) = true := decide_eq_true c11
       clear c11
       by_cases c12 : x27_1 < (y164.length : Int)
       ·
        rw [if_pos c12] at H
        have c12b0 : decide (x27_1 < (y164.length : Int)) = true := decide_eq_true c12
        clear c12
        replace H := Option.bind_eq_some_iff.mp H
        obtain ⟨t171, A130, H⟩ := H
        replace H : ((expr_consts.f k1 x6_1 t171).bind fun bt172 => (if t171 > 0 then (expr_Fold.j1 k1 x6_1 t171 bt172.1 y164 (y164.length : Int) x27_1 bt172.2 ((rd_T45 y164 x27_1).f0) ((rd_T45 y164 x27_1).f1)) else (expr_Fold.j1 k1 x6_1 t171 bt172.1 y164 (y164.length : Int) x27_1 false ((rd_T45 y164 x27_1).f0) ((rd_T45 y164 x27_1).f1)))) = some r := H
        have A13 := Am A130
        clear A130
        replace H := Option.bind_eq_some_iff.mp H
        obtain ⟨⟨t172, t173⟩, A140, H⟩ := H
        replace H : (if t171 > 0 then (expr_Fold.j1 k1 x6_1 t171 t172 y164 (y164.length : Int) x27_1 t173 ((rd_T45 y164 x27_1).f0) ((rd_T45 y164 x27_1).f1)) else (expr_Fold.j1 k1 x6_1 t171 t172 y164 (y164.length : Int) x27_1 false ((rd_T45 y164 x27_1).f0) ((rd_T45 y164 x27_1).f1))) = some r := H
        have A14 := Am A140
        clear A140
        have HC15 := Am H
        clear H
        have p169 : 0 ≤ (x27_1 : Int) := of_decide_eq_true az
        have q169 : x27_1 < (y164.length : Int) := of_decide_eq_true az
        obtain ⟨ad169, e169, hx169_0, hx169_1⟩ := at_T45 (Kd.R_reads' HO_25.out).2.2 x27_1 p169 q169
        cases e169
        replace p169 := eq_true p169
        replace q169 := eq_true q169
        go_upto_region 11 with (first | ((with_reducible refine gate_dst (N := 8) rfl ?_); refine box_event ?hg (N := 8) ?hd (cs := #[.int .i64 0, .int .i64 0]) (t := 45) ?hr ?_; (case hd => rfl); (case hg => rfl); (case hr => first | (go_simp; done) | (go_simp; rfl)); intro gb170 hg w16 hbox hb; have n0_ := Am (Kd.R_below (Kd.R_elderB (kR HO_6) gb170 (Nat.le_of_eq hg.symm)) hb); have n1_ := Am (Kd.R_below (Kd.R_elderB (kR HO_25) gb170 (Nat.le_of_eq hg.symm)) hb); have n2_ := Am (below_step (bl) hb); have n3_ := Am (hbox); have n4_ := Am ((by rw [hg]; exact (below_size (bl)) : w.heap.size ≤ gb170)); have n5_ := Am ((by rw [hg]; exact (below_size (bl)) : w.heap.size ≤ gb170)); clear HO_6; clear HO_25; clear HB; have HO_6 := n0_; have HO_25 := n1_; have HB := n2_; have BK170 := n3_; have GW170 := n4_; have GE170 := n5_; clear n0_ n1_ n2_ n3_ n4_ n5_; clear hb hbox hg; have hcz17_0 : w16.cell? ⟨gb170, 0, none⟩ = some (.int .i64 0) := (blk_cell BK170.out 0).trans rfl; have hcz17_1 : w16.cell? ⟨gb170, 1, none⟩ = some (.int .i64 0) := (blk_cell BK170.out 1).trans rfl; have hfz17_0 := blk_frozen BK170.out 0; have hfz17_1 := blk_frozen BK170.out 1) | ((with_reducible refine gate_callee (f := 21) rfl ?_); refine goesL_ (some 33) rfl rfl Try.func21 (by kernel_rfl) rfl #[.int .i64 ((rd_T45 y164 x27_1).f0)] rfl aq ?_; (with_reducible refine (expr_takes.calls k1 ((rd_T45 y164 x27_1).f0) t171 _ A13.out).mono ?_); rintro e w' ⟨rfl, ⟨nd, rfl⟩⟩; refine ⟨_, rfl, ?_⟩; obtain ⟨Ao18, co18, eo18⟩ := Kd.R_slice HO_6.out; subst eo18) | ((with_reducible refine gate_callee (f := 28) rfl ?_); refine goesL_ (some 37) rfl rfl Try.func28 (by kernel_rfl) rfl #[.slice Ao18 x6_1.length co18, .int .i64 t171] rfl aq ?_; (with_reducible refine (expr_consts.calls k1 _ _ x6_1 t171 t172 t173 _ ?side1 ?side2 A14.out).mono ?_); (case side1 => refine (Kd.R_reads' (e := 45) (base := w.heap.size) (ok := fun k_ => (some k_ ≠ (.slice (some ad169) y164.length co9 : Value).ownBlock ∧ k_ ≠ gb170)) (n := x6_1.length) (c := co18) ?_).2.2; exact (by (with_reducible repeat (first | apply Kd.R_alloc | apply Kd.R_drewN | apply Kd.R_drew)); exact (Kd.R_mono (Kd.R_far (p := ⟨gb170, 1, none⟩) (Kd.R_far (p := ⟨gb170, 0, none⟩) (Kd.R_mono HO_6.out (fun k_ hk => (⟨hk, hk.2⟩ : _ ∧ k_ ≠ gb170))) (fun _ hk => hk.2) (.int .i64 ((rd_T45 y164 x27_1).f0))) (fun _ hk => hk.2) (.int .i64 ((rd_T45 y164 x27_1).f1))) (fun _ h_ => h_.1)))); (case side2 => exact (Kd.R_reads' HO_6.out).2.1); rintro e w19 ⟨v174, rfl, ho0, hb⟩; refine ⟨_, rfl, ?_⟩; have n0_ := Am (Kd.R_below (by (with_reducible repeat (first | apply Kd.R_alloc | apply Kd.R_drewN | apply Kd.R_drew)); exact (Kd.R_mono (Kd.R_far (p := ⟨gb170, 1, none⟩) (Kd.R_far (p := ⟨gb170, 0, none⟩) (Kd.R_mono HO_6.out (fun k_ hk => (⟨hk, hk.2⟩ : _ ∧ k_ ≠ gb170))) (fun _ hk => hk.2) (.int .i64 ((rd_T45 y164 x27_1).f0))) (fun _ hk => hk.2) (.int .i64 ((rd_T45 y164 x27_1).f1))) (fun _ h_ => h_.1))) hb); have n1_ := Am (Kd.R_below (by (with_reducible repeat (first | apply Kd.R_alloc | apply Kd.R_drewN | apply Kd.R_drew)); exact (Kd.R_mono (Kd.R_far (p := ⟨gb170, 1, none⟩) (Kd.R_far (p := ⟨gb170, 0, none⟩) (Kd.R_mono HO_25.out (fun k_ hk => (⟨hk, hk.2⟩ : _ ∧ k_ ≠ gb170))) (fun _ hk => hk.2) (.int .i64 ((rd_T45 y164 x27_1).f0))) (fun _ hk => hk.2) (.int .i64 ((rd_T45 y164 x27_1).f1))) (fun _ h_ => h_.1))) hb); have n2_ := Am (Kd.R_lower ho0 (below_size (by repeat (first | (with_reducible first | exact HB.out | apply below_alloc | apply pw_below_drewN | apply below_drew1 | refine below_set ?_ GE170.out) | exact HB.out)))); have n3_ := Am (blk_below (g := gb170) (o := .cells #[.int .i64 ((rd_T45 y164 x27_1).f0), .int .i64 ((rd_T45 y164 x27_1).f1)] 45 (0, 0)) (by (with_reducible repeat (first | refine blk_drewN ?_ _ | refine blk_drew ?_ | refine blk_alloc ?_ _)); refine blk_put (cs := #[.int .i64 ((rd_T45 y164 x27_1).f0), .int .i64 0]) ?_ 1 _ rfl; (with_reducible repeat (first | refine blk_drewN ?_ _ | refine blk_drew ?_ | refine blk_alloc ?_ _)); refine blk_put (cs := #[.int .i64 0, .int .i64 0]) ?_ 0 _ rfl; (with_reducible repeat (first | refine blk_drewN ?_ _ | refine blk_drew ?_ | refine blk_alloc ?_ _)); exact BK170.out) hb); have n4_ := Am (below_step (by repeat (first | (with_reducible first | exact HB.out | apply below_alloc | apply pw_below_drewN | apply below_drew1 | refine below_set ?_ GE170.out) | exact HB.out)) hb); clear HO_6; clear HO_25; clear BK170; clear HB; have HO_6 := n0_; have HO_25 := n1_; have HO175 := n2_; have BK170 := n3_; have HB := n4_; clear n0_ n1_ n2_ n3_ n4_; (try clear hb); (try clear hb2); (try clear hk); (try clear hi); (try clear ho0)))
        (try simp only [Act.put, List.setIfInBounds_toArray, List.set_cons_zero, List.set_cons_succ])
        go_cut [44] (fun v44 wc => ∃ (kq : Nat) (x44_14 : Bool), v44 = .bool x44_14 ∧ Aside0 (expr_Fold.j1 kq x6_1 t171 t172 y164 (y164.length : Int) x27_1 x44_14 ((rd_T45 y164 x27_1).f0) ((rd_T45 y164 x27_1).f1) = some r) ∧ Aside0 (kq ≤ k1) ∧ Aside0 (Kd.R k45 45 wc w.heap.size (fun k_ => some k_ ≠ ((.slice (some ad169) y164.length co9) : Value).ownBlock ∧ k_ ≠ gb170) (.slice Ao18 x6_1.length co18) x6_1) ∧ Aside0 (Kd.R (Kd.int .i64) 3 wc w.heap.size (fun _ => True) v174 t172) ∧ Aside0 (Kd.R k45 45 wc w.heap.size (fun k_ => some k_ ≠ ((.slice Ao18 x6_1.length co18) : Value).ownBlock ∧ k_ ≠ gb170) (.slice (some ad169) y164.length co9) y164) ∧ Aside0 (wc.heap[gb170]? = some (.cells #[.int .i64 ((rd_T45 y164 x27_1).f0), .int .i64 ((rd_T45 y164 x27_1).f1)] 45 (0, 0))) ∧ Aside0 (Below w.heap.size w wc))
        case first =>
         have H := HC15.out
         clear HC15
         by_cases c20 : t171 > 0
         ·
          rw [if_pos c20] at H
          have c20b0 : decide (0 < t171) = true := decide_eq_true c20
          clear c20
          (first | rw [c20b0] | (simp only [i64_w, i32_w]; rw [c20b0]) | skip)
          have H' := Am H
          clear H
          go_wp2
          go_meet
          case rel => exact ⟨_, (t173), rq, H', ⟨by have := HK1.out; first | omega | exact Nat.le_refl _⟩, ⟨kR HO_6⟩, ⟨kR HO175⟩, ⟨kR HO_25⟩, ⟨kB BK170⟩, ⟨by repeat (first | (with_reducible first | exact HB.out | apply below_alloc | apply pw_below_drewN | apply below_drew1 | refine below_set ?_ GE170.out) | exact HB.out)⟩⟩
         ·
          rw [if_neg c20] at H
          have c20b0 : decide (0 < t171) = false := decide_eq_false c20
          clear c20
          (first | rw [c20b0] | (simp only [i64_w, i32_w]; rw [c20b0]) | skip)
          have H' := Am H
          clear H
          go_wp2
          go_meet
          case rel => exact ⟨_, (false), rq, H', ⟨by have := HK1.out; first | omega | exact Nat.le_refl _⟩, ⟨kR HO_6⟩, ⟨kR HO175⟩, ⟨kR HO_25⟩, ⟨kB BK170⟩, ⟨by repeat (first | (with_reducible first | exact HB.out | apply below_alloc | apply pw_below_drewN | apply below_drew1 | refine below_set ?_ GE170.out) | exact HB.out)⟩⟩
        case rest =>
         clear HC15
         try clear c1
         try clear p1
         try clear q1
         try clear hx1
         try clear c2
         try clear p2
         try clear c4
         try clear c4b0
         try clear c4b1
         try clear c8
         try clear c10
         try clear c10b0
         try clear c11
         try clear c11b0
         try clear c12
         try clear c12b0
         try clear c13
         try clear p16
         try clear q16
         try clear hx16
         try clear c20
         try clear c20b0
         try clear hcz17_0
         try clear hcz17_1
         try clear hfz17_0
         try clear hfz17_1
         try clear hx169_0
         try clear hx169_1
         try clear p169
         try clear p2
         try clear q169
         obtain ⟨kq, x44_14, rfl, HA, HJ14, HO_6, HO_10, HO_25, BK170, HB⟩ := hcut
         cases kq with
         | zero => exact absurd HA.out (by simp [expr_Fold.j1])
         | succ kj14 =>
          have H := HA.out
          clear HA
          simp only [expr_Fold.j1] at H
          by_cases c21 : x44_14 = true
          ·
           subst c21
           have H1 : ((expr_made.f kj14 ((rd_T45 y164 x27_1).f0) t172).bind fun bt176 => (if bt176.2 = true then (if 0 ≤ (wrap64 ((x6_1.length : Int) - t171)) then (if (wrap64 ((x6_1.length : Int) - t171)) ≤ (x6_1.length : Int) then ((some (x6_1.take ((wrap64 ((x6_1.length : Int) - t171)) : Int).toNat : List (S45))).bind fun y178 => (if y178.length < 8796093022208 then (expr_Fold.l0 kj14 (y178 ++ [(⟨1, bt176.1⟩ : S45)]) y164 (y164.length : Int) (wrap64 (x27_1 + 1))) else (none))) else (none)) else (none)) else (if x6_1.length < 8796093022208 then (expr_Fold.l0 kj14 (x6_1 ++ [(⟨((rd_T45 y164 x27_1).f0), ((rd_T45 y164 x27_1).f1)⟩ : S45)]) y164 (y164.length : Int) (wrap64 (x27_1 + 1))) else (none)))) = some r := by rw [if_pos rfl] at H; exact H
           clear H
           have H := H1
           clear H1
           replace H := Option.bind_eq_some_iff.mp H
           obtain ⟨⟨t176, t177⟩, A220, H⟩ := H
           replace H : (if t177 = true then (if 0 ≤ (wrap64 ((x6_1.length : Int) - t171)) then (if (wrap64 ((x6_1.length : Int) - t171)) ≤ (x6_1.length : Int) then ((some (x6_1.take ((wrap64 ((x6_1.length : Int) - t171)) : Int).toNat : List (S45))).bind fun y178 => (if y178.length < 8796093022208 then (expr_Fold.l0 kj14 (y178 ++ [(⟨1, t176⟩ : S45)]) y164 (y164.length : Int) (wrap64 (x27_1 + 1))) else (none))) else (none)) else (none)) else (if x6_1.length < 8796093022208 then (expr_Fold.l0 kj14 (x6_1 ++ [(⟨((rd_T45 y164 x27_1).f0), ((rd_T45 y164 x27_1).f1)⟩ : S45)]) y164 (y164.length : Int) (wrap64 (x27_1 + 1))) else (none))) = some r := H
           have A22 := Am A220
           clear A220
           by_cases c23 : t177 = true
           ·
            subst c23
            have H1 : (if 0 ≤ (wrap64 ((x6_1.length : Int) - t171)) then (if (wrap64 ((x6_1.length : Int) - t171)) ≤ (x6_1.length : Int) then ((some (x6_1.take ((wrap64 ((x6_1.length : Int) - t171)) : Int).toNat : List (S45))).bind fun y178 => (if y178.length < 8796093022208 then (expr_Fold.l0 kj14 (y178 ++ [(⟨1, t176⟩ : S45)]) y164 (y164.length : Int) (wrap64 (x27_1 + 1))) else (none))) else (none)) else (none)) = some r := by rw [if_pos rfl] at H; exact H
            clear H
            have H := H1
            clear H1
            obtain ⟨ji24, hji24⟩ : ∃ j_ : Int, (wrap64 ((x6_1.length : Int) - t171)) = j_ := ⟨_, rfl⟩
            replace H : (if 0 ≤ (ji24) then (if (ji24) ≤ (x6_1.length : Int) then ((some (x6_1.take ((ji24) : Int).toNat : List (S45))).bind fun y178 => (if y178.length < 8796093022208 then (expr_Fold.l0 kj14 (y178 ++ [(⟨1, t176⟩ : S45)]) y164 (y164.length : Int) (wrap64 (x27_1 + 1))) else (none))) else (none)) else (none)) = some r := by first | (rw [hji24] at H; exact H) | (simp only [hji24] at H ⊢; exact H)
            (try rw [hji24] at A22)
            have hji24w : (IntKind.i64.wrap ((x6_1.length : Int) - t171)) = ji24 := (i64_w _).trans hji24
            by_cases c25 : 0 ≤ (ji24)
            ·
             rw [if_pos c25] at H
             have c25b0 := eq_true c25
             have c25b1 : decide (0 ≤ (ji24)) = true := decide_eq_true c25
             clear c25
             by_cases c26 : (ji24) ≤ (x6_1.length : Int)
             ·
              rw [if_pos c26] at H
              have c26b0 := eq_true c26
              have c26b1 : decide ((ji24) ≤ (x6_1.length : Int)) = true := decide_eq_true c26
              clear c26
              obtain ⟨y178, hy178⟩ : ∃ y_ : List (S45), y_ = (x6_1.take ((ji24) : Int).toNat) := ⟨_, rfl⟩
              replace H : (if y178.length < 8796093022208 then (expr_Fold.l0 kj14 (y178 ++ [(⟨1, t176⟩ : S45)]) y164 (y164.length : Int) (wrap64 (x27_1 + 1))) else (none)) = some r := by first | (rw [hy178]; with_reducible exact H) | (have H2_ := (Option.bind_some _ _).symm.trans H; rw [hy178]; with_reducible exact H2_) | (have H2_ := (Option.bind_some _ _).symm.trans H; with_reducible exact H2_) | with_reducible exact H | (rw [hy178]; exact H) | exact H
              have Ny178 := Am hy178
              clear hy178
              by_cases c27 : y178.length < 8796093022208
              ·
               rw [if_pos c27] at H
               have LMc27 := Am c27
               clear c27
               obtain ⟨y181, hy181⟩ : ∃ y_ : List (S45), y_ = (y178 ++ [(⟨1, t176⟩ : S45)]) := ⟨_, rfl⟩
               replace H : (expr_Fold.l0 kj14 y181 y164 (y164.length : Int) (wrap64 (x27_1 + 1))) = some r := by first | (rw [hy181]; with_reducible exact H) | (have H2_ := (Option.bind_some _ _).symm.trans H; rw [hy181]; with_reducible exact H2_) | (have H2_ := (Option.bind_some _ _).symm.trans H; with_reducible exact H2_) | with_reducible exact H | (rw [hy181]; exact H) | exact H
               have Ny181 := Am hy181
               clear hy181
               have H' := Am H
               clear H
               have hcz28_0 : wc.cell? ⟨gb170, 0, none⟩ = some (.int .i64 ((rd_T45 y164 x27_1).f0)) := (blk_cell BK170.out 0).trans rfl
               have hcz28_1 : wc.cell? ⟨gb170, 1, none⟩ = some (.int .i64 ((rd_T45 y164 x27_1).f1)) := (blk_cell BK170.out 1).trans rfl
               have hfz28_0 := blk_frozen BK170.out 0
               have hfz28_1 := blk_frozen BK170.out 1
               obtain ⟨Ao29, co29, eo29⟩ := Kd.R_slice HO_10.out
               subst eo29
               go_wp2_with (first | ((with_reducible refine gate_callee (f := 26) rfl ?_); refine goesL_ (some 49) rfl rfl Try.func26 (by kernel_rfl) rfl #[.int .i64 ((rd_T45 y164 x27_1).f0), .slice Ao29 t172.length co29] rfl aq ?_; (with_reducible refine (expr_made.calls kj14 ((rd_T45 y164 x27_1).f0) _ _ t172 t176 true _ ?side1 ?side2 A22.out).mono ?_); (case side1 => repeat (first | exact (Kd.R_reads' HO_10.out).2.2 | (with_reducible refine Kd.C_alloc ?_ _) | (with_reducible refine Kd.C_drewN ?_ _) | (with_reducible refine Kd.C_drew ?_))); (case side2 => exact (Kd.R_reads' HO_10.out).2.1); rintro e w30 ⟨rfl, hb⟩; refine ⟨_, rfl, ?_⟩; have n0_ := Am (Kd.R_below (kR HO_6) hb); have n1_ := Am (Kd.R_below (kR HO_10) hb); have n2_ := Am (Kd.R_below (kR HO_25) hb); have n3_ := Am (blk_below (g := gb170) (o := .cells #[.int .i64 ((rd_T45 y164 x27_1).f0), .int .i64 ((rd_T45 y164 x27_1).f1)] 45 (0, 0)) (kB BK170) hb); have n4_ := Am (below_step (by repeat (first | (with_reducible first | exact HB.out | apply below_alloc | apply pw_below_drewN | apply below_drew1 | refine below_set ?_ GE170.out) | exact HB.out)) hb); clear HO_6; clear HO_10; clear HO_25; clear BK170; clear HB; have HO_6 := n0_; have HO_10 := n1_; have HO_25 := n2_; have BK170 := n3_; have HB := n4_; clear n0_ n1_ n2_ n3_ n4_; (try clear hb); (try clear hb2); (try clear hk); (try clear hi); have q31 : ((ji24) : Int) ≤ ((x6_1.length : Int) : Int) := of_decide_eq_true az; obtain ⟨i031, hi031, _, hsz31, _⟩ := info_parts info45; have hcut31 := cut_to (P := Try.prog) 22 45 .i64 Try.underlying22 hi031 Ao18 x6_1.length co18 (ji24) (of_decide_eq_true az) q31 (Kd.R_reads' HO_6.out).2.1; have hr31 := Kd.R_take (m := ((ji24) : Int).toNat) HO_6.out (by omega); have hy31 : y178.length = ((ji24) : Int).toNat := (by rw [Ny178.out, List.length_take]; omega); rw [← Ny178.out] at hr31; rw [← hy31] at hr31 hcut31; clear hy31 hi031 hsz31 HO_6; have HO180 := Am hr31; clear hr31; replace q31 := eq_true q31) | ((with_reducible refine gate_builtin (b := .append) (xs := #[.tmp 58, .tmp 61]) rfl ?_); at_builtin; refine Kd.R_append k45 (w0 := w) w.heap.size rfl (.tmp 58) (.tmp 61) 22 45 (.agg #[(.int .i64 0), (.int .i64 0)]) 16 rfl Try.underlying22 info45 rfl (by decide) (by omega) (.slice Ao18 y178.length co18) y178 (⟨1, t176⟩ : S45) [.int .i64 1, .int .i64 t176] (fun k_ => some k_ ≠ (.slice (some ad169) y164.length co9 : Value).ownBlock ∧ k_ ≠ gb170) (fun _ => False) rfl rfl ?aP (fun _ hk => hk.elim) ?aF ?aO ?aB ?aS ?aL ?_; (case aP => exact k45_mkM _ _ _ (⟨1, t176⟩ : S45)); (case aB => exact (by repeat (first | (with_reducible first | exact HB.out | apply below_alloc | apply pw_below_drewN | apply below_drew1 | refine below_set ?_ GE170.out) | exact HB.out))); (case aF => exact (fun k_ hk => ⟨Kd.fresh' (Kd.R_lt (kR HO_25)) k_ hk, Kd.freshB (g := gb170) (o := .cells #[.int .i64 ((rd_T45 y164 x27_1).f0), .int .i64 ((rd_T45 y164 x27_1).f1)] 45 (0, 0)) (kB BK170) k_ hk⟩)); (case aO => exact (kR HO180)); (case aS => exact (below_size (by repeat (first | (with_reducible first | exact HB.out | apply below_alloc | apply pw_below_drewN | apply below_drew1 | refine below_set ?_ GE170.out) | exact HB.out)))); (case aL => have := LMc27.out; omega); intro v182 w32 ho hb hg hat; rw [← Ny181.out] at ho; have n0_ := Am (Kd.R_over' (kR HO_10) (Kd.R_typed (kR HO180)) (by decide) hg); have n1_ := Am (Kd.R_after (ok := (fun k_ => k_ ≠ gb170)) (by (with_reducible repeat (first | apply Kd.R_alloc | apply Kd.R_drewN | apply Kd.R_drew)); exact Kd.R_mono HO_25.out (fun _ hk => ⟨hk.2, by first | exact hk.1 | exact ownBlock_len hk.1⟩)) hg hat); have n2_ := Am (blk_grown (g := gb170) (o := .cells #[.int .i64 ((rd_T45 y164 x27_1).f0), .int .i64 ((rd_T45 y164 x27_1).f1)] 45 (0, 0)) (kB BK170) hg (Kd.R_away HO180.out (fun _ hk => hk.2))); have n3_ := Am (hb); have n4_ := Am (ho); clear HO_10; clear HO_25; clear BK170; clear HB; clear HO180; have HO_10 := n0_; have HO_25 := n1_; have BK170 := n2_; have HB := n3_; have HO183 := n4_; clear n0_ n1_ n2_ n3_ n4_; clear ho hb hg hat))
               go_roundg kj14
               case measure => have := HK1.out; have := HJ14.out; omega
               case rel => exact ⟨(y181), (wrap64 (x27_1 + 1)), rq, H', ⟨by have := HK1.out; have := HJ14.out; omega⟩, ⟨by (with_reducible repeat (first | apply Kd.R_alloc | apply Kd.R_drewN | apply Kd.R_drew)); exact Kd.R_mono HO183.out (fun _ hk => hk.1)⟩, ⟨by (with_reducible repeat (first | apply Kd.R_alloc | apply Kd.R_drewN | apply Kd.R_drew)); exact Kd.R_mono HO_25.out (fun _ hk => hk.2)⟩, ⟨by repeat (first | (with_reducible first | exact HB.out | apply below_alloc | apply pw_below_drewN | apply below_drew1 | refine below_set ?_ GE170.out) | exact HB.out)⟩⟩
              ·
               rw [if_neg c27] at H
               exact absurd H (by simp)
             ·
              rw [if_neg c26] at H
              exact absurd H (by simp)
            ·
             rw [if_neg c25] at H
             exact absurd H (by simp)
           ·
            replace c23 := Bool.eq_false_iff.mpr c23
            subst c23
            have H1 : (if x6_1.length < 8796093022208 then (expr_Fold.l0 kj14 (x6_1 ++ [(⟨((rd_T45 y164 x27_1).f0), ((rd_T45 y164 x27_1).f1)⟩ : S45)]) y164 (y164.length : Int) (wrap64 (x27_1 + 1))) else (none)) = some r := by rw [if_neg (show ¬ (false = true) by decide)] at H; exact H
            clear H
            have H := H1
            clear H1
            by_cases c33 : x6_1.length < 8796093022208
            ·
             rw [if_pos c33] at H
             have LMc33 := Am c33
             clear c33
             obtain ⟨y184, hy184⟩ : ∃ y_ : List (S45), y_ = (x6_1 ++ [(⟨((rd_T45 y164 x27_1).f0), ((rd_T45 y164 x27_1).f1)⟩ : S45)]) := ⟨_, rfl⟩
             replace H : (expr_Fold.l0 kj14 y184 y164 (y164.length : Int) (wrap64 (x27_1 + 1))) = some r := by first | (rw [hy184]; with_reducible exact H) | (have H2_ := (Option.bind_some _ _).symm.trans H; rw [hy184]; with_reducible exact H2_) | (have H2_ := (Option.bind_some _ _).symm.trans H; with_reducible exact H2_) | with_reducible exact H | (rw [hy184]; exact H) | exact H
             have Ny184 := Am hy184
             clear hy184
             have H' := Am H
             clear H
             have hcz34_0 : wc.cell? ⟨gb170, 0, none⟩ = some (.int .i64 ((rd_T45 y164 x27_1).f0)) := (blk_cell BK170.out 0).trans rfl
             have hcz34_1 : wc.cell? ⟨gb170, 1, none⟩ = some (.int .i64 ((rd_T45 y164 x27_1).f1)) := (blk_cell BK170.out 1).trans rfl
             have hfz34_0 := blk_frozen BK170.out 0
             have hfz34_1 := blk_frozen BK170.out 1
             obtain ⟨Ao35, co35, eo35⟩ := Kd.R_slice HO_10.out
             subst eo35
             go_wp2_with (first | ((with_reducible refine gate_callee (f := 26) rfl ?_); refine goesL_ (some 49) rfl rfl Try.func26 (by kernel_rfl) rfl #[.int .i64 ((rd_T45 y164 x27_1).f0), .slice Ao35 t172.length co35] rfl aq ?_; (with_reducible refine (expr_made.calls kj14 ((rd_T45 y164 x27_1).f0) _ _ t172 t176 false _ ?side1 ?side2 A22.out).mono ?_); (case side1 => repeat (first | exact (Kd.R_reads' HO_10.out).2.2 | (with_reducible refine Kd.C_alloc ?_ _) | (with_reducible refine Kd.C_drewN ?_ _) | (with_reducible refine Kd.C_drew ?_))); (case side2 => exact (Kd.R_reads' HO_10.out).2.1); rintro e w36 ⟨rfl, hb⟩; refine ⟨_, rfl, ?_⟩; have n0_ := Am (Kd.R_below (kR HO_6) hb); have n1_ := Am (Kd.R_below (kR HO_10) hb); have n2_ := Am (Kd.R_below (kR HO_25) hb); have n3_ := Am (blk_below (g := gb170) (o := .cells #[.int .i64 ((rd_T45 y164 x27_1).f0), .int .i64 ((rd_T45 y164 x27_1).f1)] 45 (0, 0)) (kB BK170) hb); have n4_ := Am (below_step (by repeat (first | (with_reducible first | exact HB.out | apply below_alloc | apply pw_below_drewN | apply below_drew1 | refine below_set ?_ GE170.out) | exact HB.out)) hb); clear HO_6; clear HO_10; clear HO_25; clear BK170; clear HB; have HO_6 := n0_; have HO_10 := n1_; have HO_25 := n2_; have BK170 := n3_; have HB := n4_; clear n0_ n1_ n2_ n3_ n4_; (try clear hb); (try clear hb2); (try clear hk); (try clear hi); have hcz37_0 : w36.cell? ⟨gb170, 0, none⟩ = some (.int .i64 ((rd_T45 y164 x27_1).f0)) := (blk_cell BK170.out 0).trans rfl; have hcz37_1 : w36.cell? ⟨gb170, 1, none⟩ = some (.int .i64 ((rd_T45 y164 x27_1).f1)) := (blk_cell BK170.out 1).trans rfl; have hfz37_0 := blk_frozen BK170.out 0; have hfz37_1 := blk_frozen BK170.out 1) | ((with_reducible refine gate_builtin (b := .append) (xs := #[.tmp 63, .tmp 65]) rfl ?_); at_builtin; refine Kd.R_append k45 (w0 := w) w.heap.size rfl (.tmp 63) (.tmp 65) 22 45 (.agg #[(.int .i64 0), (.int .i64 0)]) 16 rfl Try.underlying22 info45 rfl (by decide) (by omega) (.slice Ao18 x6_1.length co18) x6_1 (⟨((rd_T45 y164 x27_1).f0), ((rd_T45 y164 x27_1).f1)⟩ : S45) [.int .i64 ((rd_T45 y164 x27_1).f0), .int .i64 ((rd_T45 y164 x27_1).f1)] (fun k_ => some k_ ≠ (.slice (some ad169) y164.length co9 : Value).ownBlock ∧ k_ ≠ gb170) (fun _ => False) rfl rfl ?aP (fun _ hk => hk.elim) ?aF ?aO ?aB ?aS ?aL ?_; (case aP => exact k45_mkM _ _ _ (⟨((rd_T45 y164 x27_1).f0), ((rd_T45 y164 x27_1).f1)⟩ : S45)); (case aB => exact (by repeat (first | (with_reducible first | exact HB.out | apply below_alloc | apply pw_below_drewN | apply below_drew1 | refine below_set ?_ GE170.out) | exact HB.out))); (case aF => exact (fun k_ hk => ⟨Kd.fresh' (Kd.R_lt (kR HO_25)) k_ hk, Kd.freshB (g := gb170) (o := .cells #[.int .i64 ((rd_T45 y164 x27_1).f0), .int .i64 ((rd_T45 y164 x27_1).f1)] 45 (0, 0)) (kB BK170) k_ hk⟩)); (case aO => exact (kR HO_6)); (case aS => exact (below_size (by repeat (first | (with_reducible first | exact HB.out | apply below_alloc | apply pw_below_drewN | apply below_drew1 | refine below_set ?_ GE170.out) | exact HB.out)))); (case aL => have := LMc33.out; omega); intro v185 w38 ho hb hg hat; rw [← Ny184.out] at ho; have n0_ := Am (Kd.R_over' (kR HO_10) (Kd.R_typed (kR HO_6)) (by decide) hg); have n1_ := Am (Kd.R_after (ok := (fun k_ => k_ ≠ gb170)) (by (with_reducible repeat (first | apply Kd.R_alloc | apply Kd.R_drewN | apply Kd.R_drew)); exact Kd.R_mono HO_25.out (fun _ hk => ⟨hk.2, by first | exact hk.1 | exact ownBlock_len hk.1⟩)) hg hat); have n2_ := Am (blk_grown (g := gb170) (o := .cells #[.int .i64 ((rd_T45 y164 x27_1).f0), .int .i64 ((rd_T45 y164 x27_1).f1)] 45 (0, 0)) (kB BK170) hg (Kd.R_away HO_6.out (fun _ hk => hk.2))); have n3_ := Am (hb); have n4_ := Am (ho); clear HO_10; clear HO_25; clear BK170; clear HB; clear HO_6; have HO_10 := n0_; have HO_25 := n1_; have BK170 := n2_; have HB := n3_; have HO186 := n4_; clear n0_ n1_ n2_ n3_ n4_; clear ho hb hg hat))
             go_roundg kj14
             case measure => have := HK1.out; have := HJ14.out; omega
             case rel => exact ⟨(y184), (wrap64 (x27_1 + 1)), rq, H', ⟨by have := HK1.out; have := HJ14.out; omega⟩, ⟨by (with_reducible repeat (first | apply Kd.R_alloc | apply Kd.R_drewN | apply Kd.R_drew)); exact Kd.R_mono HO186.out (fun _ hk => hk.1)⟩, ⟨by (with_reducible repeat (first | apply Kd.R_alloc | apply Kd.R_drewN | apply Kd.R_drew)); exact Kd.R_mono HO_25.out (fun _ hk => hk.2)⟩, ⟨by repeat (first | (with_reducible first | exact HB.out | apply below_alloc | apply pw_below_drewN | apply below_drew1 | refine below_set ?_ GE170.out) | exact HB.out)⟩⟩
            ·
             rw [if_neg c33] at H
             exact absurd H (by simp)
          ·
           replace c21 := Bool.eq_false_iff.mpr c21
           subst c21
           have H1 : (if x6_1.length < 8796093022208 then (expr_Fold.l0 kj14 (x6_1 ++ [(⟨((rd_T45 y164 x27_1).f0), ((rd_T45 y164 x27_1).f1)⟩ : S45)]) y164 (y164.length : Int) (wrap64 (x27_1 + 1))) else (none)) = some r := by rw [if_neg (show ¬ (false = true) by decide)] at H; exact H
           clear H
           have H := H1
           clear H1
           by_cases c39 : x6_1.length < 8796093022208
           ·
            rw [if_pos c39] at H
            have LMc39 := Am c39
            clear c39
            obtain ⟨y187, hy187⟩ : ∃ y_ : List (S45), y_ = (x6_1 ++ [(⟨((rd_T45 y164 x27_1).f0), ((rd_T45 y164 x27_1).f1)⟩ : S45)]) := ⟨_, rfl⟩
            replace H : (expr_Fold.l0 kj14 y187 y164 (y164.length : Int) (wrap64 (x27_1 + 1))) = some r := by first | (rw [hy187]; with_reducible exact H) | (have H2_ := (Option.bind_some _ _).symm.trans H; rw [hy187]; with_reducible exact H2_) | (have H2_ := (Option.bind_some _ _).symm.trans H; with_reducible exact H2_) | with_reducible exact H | (rw [hy187]; exact H) | exact H
            have Ny187 := Am hy187
            clear hy187
            have H' := Am H
            clear H
            have hcz40_0 : wc.cell? ⟨gb170, 0, none⟩ = some (.int .i64 ((rd_T45 y164 x27_1).f0)) := (blk_cell BK170.out 0).trans rfl
            have hcz40_1 : wc.cell? ⟨gb170, 1, none⟩ = some (.int .i64 ((rd_T45 y164 x27_1).f1)) := (blk_cell BK170.out 1).trans rfl
            have hfz40_0 := blk_frozen BK170.out 0
            have hfz40_1 := blk_frozen BK170.out 1
            go_wp2_with (first | ((with_reducible refine gate_builtin (b := .append) (xs := #[.tmp 63, .tmp 65]) rfl ?_); at_builtin; refine Kd.R_append k45 (w0 := w) w.heap.size rfl (.tmp 63) (.tmp 65) 22 45 (.agg #[(.int .i64 0), (.int .i64 0)]) 16 rfl Try.underlying22 info45 rfl (by decide) (by omega) (.slice Ao18 x6_1.length co18) x6_1 (⟨((rd_T45 y164 x27_1).f0), ((rd_T45 y164 x27_1).f1)⟩ : S45) [.int .i64 ((rd_T45 y164 x27_1).f0), .int .i64 ((rd_T45 y164 x27_1).f1)] (fun k_ => some k_ ≠ (.slice (some ad169) y164.length co9 : Value).ownBlock ∧ k_ ≠ gb170) (fun _ => False) rfl rfl ?aP (fun _ hk => hk.elim) ?aF ?aO ?aB ?aS ?aL ?_; (case aP => exact k45_mkM _ _ _ (⟨((rd_T45 y164 x27_1).f0), ((rd_T45 y164 x27_1).f1)⟩ : S45)); (case aB => exact (by repeat (first | (with_reducible first | exact HB.out | apply below_alloc | apply pw_below_drewN | apply below_drew1 | refine below_set ?_ GE170.out) | exact HB.out))); (case aF => exact (fun k_ hk => ⟨Kd.fresh' (Kd.R_lt (kR HO_25)) k_ hk, Kd.freshB (g := gb170) (o := .cells #[.int .i64 ((rd_T45 y164 x27_1).f0), .int .i64 ((rd_T45 y164 x27_1).f1)] 45 (0, 0)) (kB BK170) k_ hk⟩)); (case aO => exact (kR HO_6)); (case aS => exact (below_size (by repeat (first | (with_reducible first | exact HB.out | apply below_alloc | apply pw_below_drewN | apply below_drew1 | refine below_set ?_ GE170.out) | exact HB.out)))); (case aL => have := LMc39.out; omega); intro v188 w41 ho hb hg hat; rw [← Ny187.out] at ho; have n0_ := Am (Kd.R_over' (kR HO_10) (Kd.R_typed (kR HO_6)) (by decide) hg); have n1_ := Am (Kd.R_after (ok := (fun k_ => k_ ≠ gb170)) (by (with_reducible repeat (first | apply Kd.R_alloc | apply Kd.R_drewN | apply Kd.R_drew)); exact Kd.R_mono HO_25.out (fun _ hk => ⟨hk.2, by first | exact hk.1 | exact ownBlock_len hk.1⟩)) hg hat); have n2_ := Am (blk_grown (g := gb170) (o := .cells #[.int .i64 ((rd_T45 y164 x27_1).f0), .int .i64 ((rd_T45 y164 x27_1).f1)] 45 (0, 0)) (kB BK170) hg (Kd.R_away HO_6.out (fun _ hk => hk.2))); have n3_ := Am (hb); have n4_ := Am (ho); clear HO_10; clear HO_25; clear BK170; clear HB; clear HO_6; have HO_10 := n0_; have HO_25 := n1_; have BK170 := n2_; have HB := n3_; have HO189 := n4_; clear n0_ n1_ n2_ n3_ n4_; clear ho hb hg hat))
            go_roundg kj14
            case measure => have := HK1.out; have := HJ14.out; omega
            case rel => exact ⟨(y187), (wrap64 (x27_1 + 1)), rq, H', ⟨by have := HK1.out; have := HJ14.out; omega⟩, ⟨by (with_reducible repeat (first | apply Kd.R_alloc | apply Kd.R_drewN | apply Kd.R_drew)); exact Kd.R_mono HO189.out (fun _ hk => hk.1)⟩, ⟨by (with_reducible repeat (first | apply Kd.R_alloc | apply Kd.R_drewN | apply Kd.R_drew)); exact Kd.R_mono HO_25.out (fun _ hk => hk.2)⟩, ⟨by repeat (first | (with_reducible first | exact HB.out | apply below_alloc | apply pw_below_drewN | apply below_drew1 | refine below_set ?_ GE170.out) | exact HB.out)⟩⟩
           ·
            rw [if_neg c39] at H
            exact absurd H (by simp)
       ·
        rw [if_neg c12] at H
        exact absurd H (by simp)
      ·
       rw [if_neg c11] at H
       exact absurd H (by simp)
     ·
      rw [if_neg c10] at H
      have c10b0 : decide (x27_1 < (y164.length : Int)) = false := decide_eq_false c10
      clear c10
      obtain rfl := Option.some.inj H
      go_wp2
      go_ret
      exact ⟨_, xq, by (with_reducible repeat (first | apply Kd.R_alloc | apply Kd.R_drewN | apply Kd.R_drew)); exact Kd.R_mono HO_6.out (fun _ hk => trivial), bl⟩
  ·
   rw [if_neg c4] at H
   have c4b0 : (t168 == 0) = false := beq_eq_false_iff_ne.mpr c4
   have c4b1 : (t168 != 0) = true := bne_iff_ne.mpr c4
   obtain rfl := Option.some.inj H
   go_enter Try.func13, Try.ntmps13
   go_wp2_with (first | ((with_reducible refine gate_dst (N := 14) rfl ?_); refine Kd.R_lit k45 _ 45 ?hg (N := 14) ?hd (xs := ([] : List (S45))) (inner := []) (ok := fun _ => True) (okp := fun _ => True) ?hr ?hp (fun _ hk => hk) trivial (Below.refl _ _) (Nat.le_refl _) (by simp) ?_; (case hd => rfl); (case hg => rfl); (case hr => first | (go_simp; done) | (go_simp; rfl)); (case hp => exact (Reps.none _ _)); intro v162 w42 ho43 hb hg_ hnew_; clear hg_ hnew_; (first | rw [← Ny161.out] at ho43 | (simp only [Int.reduceToNat] at ho43; rw [← Ny161.out] at ho43)); have n0_ := Am (Kd.R_lower ho43 (below_size (bl))); have n1_ := Am (below_step (bl) hb); clear HB; have HO163 := n0_; have HB := n1_; clear n0_ n1_; clear hb ho43) | ((with_reducible refine gate_builtin (b := .append) (xs := #[.tmp 14, .tmp 15]) rfl ?_); at_builtin; refine Kd.R_append_rows k45 (w0 := w) w.heap.size rfl (.tmp 14) (.tmp 15) 22 45 (.agg #[(.int .i64 0), (.int .i64 0)]) 16 rfl Try.underlying22 info45 rfl (by decide) (by omega) v162 y161 l0 _ _ _ (fun _ => True) (fun _ => False) rfl rfl ?aO ?aR (fun _ _ h => h) (fun _ h => h.elim) ?aF ?aB ?aS ?aL ?_; (case aR => repeat (first | exact (Kd.C_below HR0.out HB.out) | (with_reducible refine Kd.C_alloc ?_ _) | (with_reducible refine Kd.C_drewN ?_ _) | (with_reducible refine Kd.C_drew ?_))); (case aB => exact (bl)); (case aF => exact (fun _ _ => trivial)); (case aO => exact (kR HO163)); (case aS => exact (below_size (bl))); (case aL => have := LMc2.out; omega); intro v165 w44 ho hb hg hat; rw [← Ny164.out] at ho; have n0_ := Am (hb); have n1_ := Am (ho); clear HB; clear HO163; have HB := n0_; have HO166 := n1_; clear n0_ n1_; clear ho hb hg hat) | ((with_reducible refine gate_callee (f := 8) rfl ?_); refine goesL_ (some 19) rfl rfl Try.func8 (by kernel_rfl) rfl #[.slice A0 l0.length c0, .int .i64 9223372036854775807, .int .i64 9223372036854775807] rfl aq ?_; (with_reducible refine (expr_Check.calls k _ _ l0 9223372036854775807 9223372036854775807 t167 t168 _ ?side1 ?side2 A3.out).mono ?_); (case side1 => repeat (first | exact (Kd.C_below HR0.out HB.out) | (with_reducible refine Kd.C_alloc ?_ _) | (with_reducible refine Kd.C_drewN ?_ _) | (with_reducible refine Kd.C_drew ?_))); (case side2 => exact HC0.out); rintro e w45 ⟨rfl, hb⟩; refine ⟨_, rfl, ?_⟩; have n0_ := Am (Kd.R_below (kR HO166) hb); have n1_ := Am (below_step (bl) hb); clear HO166; clear HB; have HO166 := n0_; have HB := n1_; clear n0_ n1_; (try clear hb); (try clear hb2); (try clear hk); (try clear hi)))
   go_ret
   exact ⟨_, xq, by (with_reducible repeat (first | apply Kd.R_alloc | apply Kd.R_drewN | apply Kd.R_drew)); exact HO166.out, bl⟩
 ·
  rw [if_neg c2] at H
  exact absurd H (by simp)

/-! ### expr_Depth: function 18 -/
def expr_Depth.l0 : Nat → Int → Int → List (S45) → Int → Int → Option (Int)
 | 0, _, _, _, _, _ => none
 | k + 1, x3, x4, x8, x9, x10 => if x10 < x9 then (if 0 ≤ x10 then (if x10 < (x8.length : Int) then ((expr_takes.f k ((rd_T45 x8 x10).f0)).bind fun t192 => (if t192 < 0 then (expr_Depth.l0 k x3 x4 x8 x9 (wrap64 (x10 + 1))) else (if x3 < t192 then (some 0) else (expr_Depth.l0 k (wrap64 (x3 + (wrap64 (1 - t192)))) (mx x4 (wrap64 (x3 + (wrap64 (1 - t192))))) x8 x9 (wrap64 (x10 + 1)))))) else (none)) else (none)) else (some x4)
def expr_Depth.f (k : Nat) (l0 : List (S45)) : Option (Int) := expr_Depth.l0 k 0 0 l0 (l0.length : Int) 0
theorem expr_Depth.mono_l : ∀ k, (∀ y0 y1 y2 y3 y4, LeO (expr_Depth.l0 k y0 y1 y2 y3 y4) (expr_Depth.l0 (k + 1) y0 y1 y2 y3 y4))
 | 0 => fun _ _ _ _ _ r h => by simp [expr_Depth.l0] at h
 | k + 1 => by
  have ih0 := expr_Depth.mono_l k
  ·
   intro y0 y1 y2 y3 y4
   unfold expr_Depth.l0
   repeat' first
   | (with_reducible exact ih0 _ _ _ _ _)
   | (with_reducible exact expr_takes.mono _ _)
   | (with_reducible exact LeO.refl _)
   | (with_reducible exact LeO.none _)
   | (with_reducible refine LeO.ite ?_ ?_)
   | (with_reducible refine LeO.bind ?_ (fun _ => ?_))
   | exact ih0 _ _ _ _ _
   | exact expr_takes.mono _ _
   | exact LeO.none _
   | refine LeO.ite ?_ ?_
   | refine LeO.bind ?_ (fun _ => ?_)
theorem expr_Depth.mono : ∀ a0 k, LeO (expr_Depth.f k a0) (expr_Depth.f (k + 1) a0) := by
 intro a0 k
 have ih0 := expr_Depth.mono_l k
 unfold expr_Depth.f
 repeat' first
   | (with_reducible exact ih0 _ _ _ _ _)
   | (with_reducible exact expr_takes.mono _ _)
   | (with_reducible exact LeO.refl _)
   | (with_reducible exact LeO.none _)
   | (with_reducible refine LeO.ite ?_ ?_)
   | (with_reducible refine LeO.bind ?_ (fun _ => ?_))
   | exact ih0 _ _ _ _ _
   | exact expr_takes.mono _ _
   | exact LeO.none _
   | refine LeO.ite ?_ ?_
   | refine LeO.bind ?_ (fun _ => ?_)
set_option maxHeartbeats 8000000 in
set_option maxRecDepth 100000 in
theorem expr_Depth.calls (k : Nat) (A0 : Option Addr) (c0 : Nat) (l0 : List (S45)) (r : Int) (w : World) (hr0 : Kd.C k45 w A0 l0.length l0) (hc0 : l0.length ≤ c0) (h : expr_Depth.f k l0 = some r) :
  Calls Try.prog 18 #[.slice A0 l0.length c0] w fun e w' => e = .returned (.int .i64 r) ∧ Below w.heap.size w w' := by
 have hu45 := Try.underlying45
 have HR0 := Am hr0
 have HC0 := Am hc0
 clear hr0 hc0
 have HB := Am (Below.refl w.heap.size w)
 have H : (expr_Depth.l0 k 0 0 l0 (l0.length : Int) 0) = some r := h
 clear h
 have H' := Am H
 clear H
 go_enter Try.func18, Try.ntmps18
 (go_wp2; (try (go_step3; go_wp2; (try (go_step3; go_wp2)))))
 go_loopg [3, 4, 10] k (fun kq v3 v4 v10 w' => ∃ (x3_1 : Int) (x4_1 : Int) (x10_1 : Int), v3 = .int .i64 x3_1 ∧ v4 = .int .i64 x4_1 ∧ v10 = .int .i64 x10_1 ∧ Aside0 (expr_Depth.l0 kq x3_1 x4_1 l0 (l0.length : Int) x10_1 = some r) ∧ Aside0 (kq ≤ k) ∧ Aside0 (Below w.heap.size w w'))
 case atStart => exact ⟨(0), (0), (0), rq, rq, rq, H', ⟨Nat.le_refl _⟩, ⟨bl⟩⟩
 case round =>
  clear H'
  try clear c1
  obtain ⟨x3_1, x4_1, x10_1, rfl, rfl, rfl, HA, HK1, HB⟩ := hrel
  cases gk with
  | zero => exact absurd HA.out (by simp [expr_Depth.l0])
  | succ k1 =>
   have H := HA.out
   clear HA
   simp only [expr_Depth.l0] at H
   by_cases c2 : x10_1 < (l0.length : Int)
   ·
    rw [if_pos c2] at H
    have c2b0 : decide (x10_1 < (l0.length : Int)) = true := decide_eq_true c2
    clear c2
    by_cases c3 : 0 ≤ x10_1
    ·
     rw [if_pos c3] at H
     have c3b0 : decide (0 ≤ x10_1) = true := decide_eq_true c3
     clear c3
     by_cases c4 : x10_1 < (l0.length : Int)
     ·
      rw [if_pos c4] at H
      have c4b0 : decide (x10_1 < (l0.length : Int)) = true := decide_eq_true c4
      clear c4
      replace H := Option.bind_eq_some_iff.mp H
      obtain ⟨t192, A50, H⟩ := H
      replace H : (if t192 < 0 then (expr_Depth.l0 k1 x3_1 x4_1 l0 (l0.length : Int) (wrap64 (x10_1 + 1))) else (if x3_1 < t192 then (some 0) else (expr_Depth.l0 k1 (wrap64 (x3_1 + (wrap64 (1 - t192)))) (mx x4_1 (wrap64 (x3_1 + (wrap64 (1 - t192))))) l0 (l0.length : Int) (wrap64 (x10_1 + 1))))) = some r := H
      have A5 := Am A50
      clear A50
      by_cases c6 : t192 < 0
      ·
       rw [if_pos c6] at H
       have c6b0 : decide (t192 < 0) = true := decide_eq_true c6
       clear c6
       have H' := Am H
       clear H
       have p190 : 0 ≤ (x10_1 : Int) := of_decide_eq_true az
       have q190 : x10_1 < (l0.length : Int) := of_decide_eq_true az
       obtain ⟨ad190, e190, hx190_0, hx190_1⟩ := at_T45 HR0.out x10_1 p190 q190
       cases e190
       replace hx190_0 := (HB.out.cell (World.block_lt_of_cell? w _ hx190_0)).trans hx190_0
       replace hx190_1 := (HB.out.cell (World.block_lt_of_cell? w _ hx190_1)).trans hx190_1
       replace p190 := eq_true p190
       replace q190 := eq_true q190
       go_wp2_with (first | ((with_reducible refine gate_dst (N := 6) rfl ?_); refine box_event ?hg (N := 6) ?hd (cs := #[.int .i64 0, .int .i64 0]) (t := 45) ?hr ?_; (case hd => rfl); (case hg => rfl); (case hr => first | (go_simp; done) | (go_simp; rfl)); intro gb191 hg w7 hbox hb; have n0_ := Am (below_step (bl) hb); have n1_ := Am (hbox); have n2_ := Am ((by rw [hg]; exact (below_size (bl)) : w.heap.size ≤ gb191)); have n3_ := Am ((by rw [hg]; exact (below_size (bl)) : w.heap.size ≤ gb191)); clear HB; have HB := n0_; have BK191 := n1_; have GW191 := n2_; have GE191 := n3_; clear n0_ n1_ n2_ n3_; clear hb hbox hg; have hcz8_0 : w7.cell? ⟨gb191, 0, none⟩ = some (.int .i64 0) := (blk_cell BK191.out 0).trans rfl; have hcz8_1 : w7.cell? ⟨gb191, 1, none⟩ = some (.int .i64 0) := (blk_cell BK191.out 1).trans rfl; have hfz8_0 := blk_frozen BK191.out 0; have hfz8_1 := blk_frozen BK191.out 1) | ((with_reducible refine gate_callee (f := 21) rfl ?_); refine goesL_ (some 16) rfl rfl Try.func21 (by kernel_rfl) rfl #[.int .i64 ((rd_T45 l0 x10_1).f0)] rfl aq ?_; (with_reducible refine (expr_takes.calls k1 ((rd_T45 l0 x10_1).f0) t192 _ A5.out).mono ?_); rintro e w' ⟨rfl, ⟨nd, rfl⟩⟩; refine ⟨_, rfl, ?_⟩))
       go_roundg k1
       case measure => have := HK1.out; omega
       case rel => exact ⟨(x3_1), (x4_1), (wrap64 (x10_1 + 1)), rq, rq, rq, H', ⟨by have := HK1.out; omega⟩, ⟨by repeat (first | (with_reducible first | exact HB.out | apply below_alloc | apply pw_below_drewN | apply below_drew1 | refine below_set ?_ GE191.out) | exact HB.out)⟩⟩
      ·
       rw [if_neg c6] at H
       have c6b0 : decide (t192 < 0) = false := decide_eq_false c6
       clear c6
       by_cases c9 : x3_1 < t192
       ·
        rw [if_pos c9] at H
        have c9b0 : decide (x3_1 < t192) = true := decide_eq_true c9
        clear c9
        obtain rfl := Option.some.inj H
        have p190 : 0 ≤ (x10_1 : Int) := of_decide_eq_true az
        have q190 : x10_1 < (l0.length : Int) := of_decide_eq_true az
        obtain ⟨ad190, e190, hx190_0, hx190_1⟩ := at_T45 HR0.out x10_1 p190 q190
        cases e190
        replace hx190_0 := (HB.out.cell (World.block_lt_of_cell? w _ hx190_0)).trans hx190_0
        replace hx190_1 := (HB.out.cell (World.block_lt_of_cell? w _ hx190_1)).trans hx190_1
        replace p190 := eq_true p190
        replace q190 := eq_true q190
        go_wp2_with (first | ((with_reducible refine gate_dst (N := 6) rfl ?_); refine box_event ?hg (N := 6) ?hd (cs := #[.int .i64 0, .int .i64 0]) (t := 45) ?hr ?_; (case hd => rfl); (case hg => rfl); (case hr => first | (go_simp; done) | (go_simp; rfl)); intro gb191 hg w10 hbox hb; have n0_ := Am (below_step (bl) hb); have n1_ := Am (hbox); have n2_ := Am ((by rw [hg]; exact (below_size (bl)) : w.heap.size ≤ gb191)); have n3_ := Am ((by rw [hg]; exact (below_size (bl)) : w.heap.size ≤ gb191)); clear HB; have HB := n0_; have BK191 := n1_; have GW191 := n2_; have GE191 := n3_; clear n0_ n1_ n2_ n3_; clear hb hbox hg; have hcz11_0 : w10.cell? ⟨gb191, 0, none⟩ = some (.int .i64 0) := (blk_cell BK191.out 0).trans rfl; have hcz11_1 : w10.cell? ⟨gb191, 1, none⟩ = some (.int .i64 0) := (blk_cell BK191.out 1).trans rfl; have hfz11_0 := blk_frozen BK191.out 0; have hfz11_1 := blk_frozen BK191.out 1) | ((with_reducible refine gate_callee (f := 21) rfl ?_); refine goesL_ (some 16) rfl rfl Try.func21 (by kernel_rfl) rfl #[.int .i64 ((rd_T45 l0 x10_1).f0)] rfl aq ?_; (with_reducible refine (expr_takes.calls k1 ((rd_T45 l0 x10_1).f0) t192 _ A5.out).mono ?_); rintro e w' ⟨rfl, ⟨nd, rfl⟩⟩; refine ⟨_, rfl, ?_⟩))
        go_ret
        exact ⟨xq, by repeat (first | (with_reducible first | exact HB.out | apply below_alloc | apply pw_below_drewN | apply below_drew1 | refine below_set ?_ GE191.out) | exact HB.out)⟩
       ·
        rw [if_neg c9] at H
        have c9b0 : decide (x3_1 < t192) = false := decide_eq_false c9
        clear c9
        obtain ⟨ji12, hji12⟩ : ∃ j_ : Int, (mx x4_1 (wrap64 (x3_1 + (wrap64 (1 - t192))))) = j_ := ⟨_, rfl⟩
        replace H : (expr_Depth.l0 k1 (wrap64 (x3_1 + (wrap64 (1 - t192)))) ji12 l0 (l0.length : Int) (wrap64 (x10_1 + 1))) = some r := by first | (rw [hji12] at H; exact H) | (simp only [hji12] at H ⊢; exact H)
        (try rw [hji12] at A5)
        have hji12_ : (if x4_1 < (wrap64 (x3_1 + (wrap64 (1 - t192)))) then (wrap64 (x3_1 + (wrap64 (1 - t192)))) else x4_1) = ji12 := hji12
        have H' := Am H
        clear H
        have p190 : 0 ≤ (x10_1 : Int) := of_decide_eq_true az
        have q190 : x10_1 < (l0.length : Int) := of_decide_eq_true az
        obtain ⟨ad190, e190, hx190_0, hx190_1⟩ := at_T45 HR0.out x10_1 p190 q190
        cases e190
        replace hx190_0 := (HB.out.cell (World.block_lt_of_cell? w _ hx190_0)).trans hx190_0
        replace hx190_1 := (HB.out.cell (World.block_lt_of_cell? w _ hx190_1)).trans hx190_1
        replace p190 := eq_true p190
        replace q190 := eq_true q190
        go_wp2_with (first | ((with_reducible refine gate_dst (N := 6) rfl ?_); refine box_event ?hg (N := 6) ?hd (cs := #[.int .i64 0, .int .i64 0]) (t := 45) ?hr ?_; (case hd => rfl); (case hg => rfl); (case hr => first | (go_simp; done) | (go_simp; rfl)); intro gb191 hg w13 hbox hb; have n0_ := Am (below_step (bl) hb); have n1_ := Am (hbox); have n2_ := Am ((by rw [hg]; exact (below_size (bl)) : w.heap.size ≤ gb191)); have n3_ := Am ((by rw [hg]; exact (below_size (bl)) : w.heap.size ≤ gb191)); clear HB; have HB := n0_; have BK191 := n1_; have GW191 := n2_; have GE191 := n3_; clear n0_ n1_ n2_ n3_; clear hb hbox hg; have hcz14_0 : w13.cell? ⟨gb191, 0, none⟩ = some (.int .i64 0) := (blk_cell BK191.out 0).trans rfl; have hcz14_1 : w13.cell? ⟨gb191, 1, none⟩ = some (.int .i64 0) := (blk_cell BK191.out 1).trans rfl; have hfz14_0 := blk_frozen BK191.out 0; have hfz14_1 := blk_frozen BK191.out 1) | ((with_reducible refine gate_callee (f := 21) rfl ?_); refine goesL_ (some 16) rfl rfl Try.func21 (by kernel_rfl) rfl #[.int .i64 ((rd_T45 l0 x10_1).f0)] rfl aq ?_; (with_reducible refine (expr_takes.calls k1 ((rd_T45 l0 x10_1).f0) t192 _ A5.out).mono ?_); rintro e w' ⟨rfl, ⟨nd, rfl⟩⟩; refine ⟨_, rfl, ?_⟩))
        go_roundg k1
        case measure => have := HK1.out; omega
        case rel => exact ⟨(wrap64 (x3_1 + (wrap64 (1 - t192)))), (ji12), (wrap64 (x10_1 + 1)), rq, (by first | rfl | (simp; done) | (simp only [← hji12] <;> (first | rfl | simp)) | (simp [*]; done)), rq, H', ⟨by have := HK1.out; omega⟩, ⟨by repeat (first | (with_reducible first | exact HB.out | apply below_alloc | apply pw_below_drewN | apply below_drew1 | refine below_set ?_ GE191.out) | exact HB.out)⟩⟩
     ·
      rw [if_neg c4] at H
      exact absurd H (by simp)
    ·
     rw [if_neg c3] at H
     exact absurd H (by simp)
   ·
    rw [if_neg c2] at H
    have c2b0 : decide (x10_1 < (l0.length : Int)) = false := decide_eq_false c2
    clear c2
    obtain rfl := Option.some.inj H
    (go_wp2; (try (go_step3; go_wp2; (try (go_step3; go_wp2)))))
    go_ret
    exact ⟨xq, bl⟩

/-! ### surmiselaw03_sample: function 24 -/
def surmiselaw03_sample.f  : Option ((List (S45))) := some (([(⟨2, 0⟩ : S45), (⟨2, 1⟩ : S45), (⟨1, 2⟩ : S45), (⟨8, 0⟩ : S45), (⟨7, 0⟩ : S45)] : List (S45)))
set_option maxHeartbeats 8000000 in
set_option maxRecDepth 100000 in
theorem surmiselaw03_sample.calls  (r : List (S45)) (w : World) (h : surmiselaw03_sample.f  = some r) :
  Calls Try.prog 24 #[] w fun e w' => ∃ v0_ : Value, e = .returned (v0_) ∧ Kd.R k45 45 w' w.heap.size (fun _ => True) v0_ r ∧ Below w.heap.size w w' := by
 have hu45 := Try.underlying45
 have HB := Am (Below.refl w.heap.size w)
 have H : (some (([(⟨2, 0⟩ : S45), (⟨2, 1⟩ : S45), (⟨1, 2⟩ : S45), (⟨8, 0⟩ : S45), (⟨7, 0⟩ : S45)] : List (S45)))) = some r := h
 clear h
 obtain ⟨y193, hy193⟩ : ∃ y_ : List (S45), y_ = (([(⟨2, 0⟩ : S45), (⟨2, 1⟩ : S45), (⟨1, 2⟩ : S45), (⟨8, 0⟩ : S45), (⟨7, 0⟩ : S45)] : List (S45))) := ⟨_, rfl⟩
 replace H : (some y193) = some r := by first | (rw [hy193]; with_reducible exact H) | (have H2_ := (Option.bind_some _ _).symm.trans H; rw [hy193]; with_reducible exact H2_) | (have H2_ := (Option.bind_some _ _).symm.trans H; with_reducible exact H2_) | with_reducible exact H | (rw [hy193]; exact H) | exact H
 have Ny193 := Am hy193
 clear hy193
 obtain rfl := Option.some.inj H
 go_enter Try.func24, Try.ntmps24
 go_wp2_with (first | ((with_reducible refine gate_dst (N := 6) rfl ?_); refine Kd.R_lit k45 _ 45 ?hg (N := 6) ?hd (xs := ([(⟨2, 0⟩ : S45), (⟨2, 1⟩ : S45), (⟨1, 2⟩ : S45), (⟨8, 0⟩ : S45), (⟨7, 0⟩ : S45)] : List (S45))) (inner := [.int .i64 2, .int .i64 0, .int .i64 2, .int .i64 1, .int .i64 1, .int .i64 2, .int .i64 8, .int .i64 0, .int .i64 7, .int .i64 0]) (ok := fun _ => True) (okp := fun _ => True) ?hr ?hp (fun _ hk => hk) trivial (Below.refl _ _) (Nat.le_refl _) (by simp) ?_; (case hd => rfl); (case hg => rfl); (case hr => first | (go_simp; done) | (go_simp; rfl)); (case hp => exact (Reps.c2 (show Kd.M k45 _ _ _ (⟨2, 0⟩ : S45) [.int .i64 2, .int .i64 0] from (k45_mkM _ _ _ (⟨2, 0⟩ : S45) )) (Reps.c2 (show Kd.M k45 _ _ _ (⟨2, 1⟩ : S45) [.int .i64 2, .int .i64 1] from (k45_mkM _ _ _ (⟨2, 1⟩ : S45) )) (Reps.c2 (show Kd.M k45 _ _ _ (⟨1, 2⟩ : S45) [.int .i64 1, .int .i64 2] from (k45_mkM _ _ _ (⟨1, 2⟩ : S45) )) (Reps.c2 (show Kd.M k45 _ _ _ (⟨8, 0⟩ : S45) [.int .i64 8, .int .i64 0] from (k45_mkM _ _ _ (⟨8, 0⟩ : S45) )) (Reps.c2 (show Kd.M k45 _ _ _ (⟨7, 0⟩ : S45) [.int .i64 7, .int .i64 0] from (k45_mkM _ _ _ (⟨7, 0⟩ : S45) )) (Reps.none _ _))))))); intro v194 w1 ho2 hb hg_ hnew_; clear hg_ hnew_; (first | rw [← Ny193.out] at ho2 | (simp only [Int.reduceToNat] at ho2; rw [← Ny193.out] at ho2)); have n0_ := Am (Kd.R_lower ho2 (below_size (bl))); have n1_ := Am (below_step (bl) hb); clear HB; have HO195 := n0_; have HB := n1_; clear n0_ n1_; clear hb ho2))
 go_ret
 exact ⟨_, xq, by (with_reducible repeat (first | apply Kd.R_alloc | apply Kd.R_drewN | apply Kd.R_drew)); exact HO195.out, bl⟩

/-! ### surmiselaw03_awake: function 10 -/
def surmiselaw03_awake.f (k : Nat)  : Option (Bool) := (surmiselaw03_sample.f).bind fun t196 => ((expr_Eval.f k t196 (([7, 2] : List Int)) ([] : List Int)).bind fun bt202 => ((surmiselaw03_sample.f).bind fun t204 => ((expr_Check.f k t204 1 0).bind fun bt207 => ((expr_Fold.f k (([(⟨1, 1⟩ : S45), (⟨1, 2⟩ : S45), (⟨6, 0⟩ : S45)] : List (S45)))).bind fun t212 => (if bt202.1 = 3 then (if bt202.2 = 0 then (if bt207.1 = 1 then (if bt207.2 = 3 then (if (t212.length : Int) = 1 then (if 0 < (t212.length : Int) then (if (((rd_T45 t212 0).f0) == 1 && (((rd_T45 t212 0).f1) == 3)) = true then ((surmiselaw03_sample.f).bind fun t216 => ((expr_Depth.f k t216).bind fun t219 => (some (t219 == 3)))) else (none)) else (none)) else (none)) else (none)) else (none)) else (none)) else (none))))))
theorem surmiselaw03_awake.mono : ∀ k, LeO (surmiselaw03_awake.f k ) (surmiselaw03_awake.f (k + 1) ) := by
 intro  k
 unfold surmiselaw03_awake.f
 repeat' first
   | (with_reducible exact expr_Check.mono _ _ _ _)
   | (with_reducible exact expr_Depth.mono _ _)
   | (with_reducible exact expr_Eval.mono _ _ _ _)
   | (with_reducible exact expr_Fold.mono _ _)
   | (with_reducible exact LeO.refl _)
   | (with_reducible exact LeO.none _)
   | (with_reducible refine LeO.ite ?_ ?_)
   | (with_reducible refine LeO.bind ?_ (fun _ => ?_))
   | exact expr_Check.mono _ _ _ _
   | exact expr_Depth.mono _ _
   | exact expr_Eval.mono _ _ _ _
   | exact expr_Fold.mono _ _
   | exact LeO.none _
   | refine LeO.ite ?_ ?_
   | refine LeO.bind ?_ (fun _ => ?_)
set_option maxHeartbeats 8000000 in
set_option maxRecDepth 100000 in
theorem surmiselaw03_awake.calls (k : Nat)  (r : Bool) (w : World) (h : surmiselaw03_awake.f k  = some r) :
  Calls Try.prog 10 #[] w fun e w' => e = .returned (.bool r) ∧ Below w.heap.size w w' := by
 have hu45 := Try.underlying45
 have HB := Am (Below.refl w.heap.size w)
 have H : ((surmiselaw03_sample.f).bind fun t196 => ((expr_Eval.f k t196 (([7, 2] : List Int)) ([] : List Int)).bind fun bt202 => ((surmiselaw03_sample.f).bind fun t204 => ((expr_Check.f k t204 1 0).bind fun bt207 => ((expr_Fold.f k (([(⟨1, 1⟩ : S45), (⟨1, 2⟩ : S45), (⟨6, 0⟩ : S45)] : List (S45)))).bind fun t212 => (if bt202.1 = 3 then (if bt202.2 = 0 then (if bt207.1 = 1 then (if bt207.2 = 3 then (if (t212.length : Int) = 1 then (if 0 < (t212.length : Int) then (if (((rd_T45 t212 0).f0) == 1 && (((rd_T45 t212 0).f1) == 3)) = true then ((surmiselaw03_sample.f).bind fun t216 => ((expr_Depth.f k t216).bind fun t219 => (some (t219 == 3)))) else (none)) else (none)) else (none)) else (none)) else (none)) else (none)) else (none))))))) = some r := h
 clear h
 replace H := Option.bind_eq_some_iff.mp H
 obtain ⟨t196, A10, H⟩ := H
 replace H : ((expr_Eval.f k t196 (([7, 2] : List Int)) ([] : List Int)).bind fun bt202 => ((surmiselaw03_sample.f).bind fun t204 => ((expr_Check.f k t204 1 0).bind fun bt207 => ((expr_Fold.f k (([(⟨1, 1⟩ : S45), (⟨1, 2⟩ : S45), (⟨6, 0⟩ : S45)] : List (S45)))).bind fun t212 => (if bt202.1 = 3 then (if bt202.2 = 0 then (if bt207.1 = 1 then (if bt207.2 = 3 then (if (t212.length : Int) = 1 then (if 0 < (t212.length : Int) then (if (((rd_T45 t212 0).f0) == 1 && (((rd_T45 t212 0).f1) == 3)) = true then ((surmiselaw03_sample.f).bind fun t216 => ((expr_Depth.f k t216).bind fun t219 => (some (t219 == 3)))) else (none)) else (none)) else (none)) else (none)) else (none)) else (none)) else (none)))))) = some r := H
 have A1 := Am A10
 clear A10
 obtain ⟨y199, hy199⟩ : ∃ y_ : List Int, y_ = (([7, 2] : List Int)) := ⟨_, rfl⟩
 replace H : ((expr_Eval.f k t196 y199 ([] : List Int)).bind fun bt202 => ((surmiselaw03_sample.f).bind fun t204 => ((expr_Check.f k t204 1 0).bind fun bt207 => ((expr_Fold.f k (([(⟨1, 1⟩ : S45), (⟨1, 2⟩ : S45), (⟨6, 0⟩ : S45)] : List (S45)))).bind fun t212 => (if bt202.1 = 3 then (if bt202.2 = 0 then (if bt207.1 = 1 then (if bt207.2 = 3 then (if (t212.length : Int) = 1 then (if 0 < (t212.length : Int) then (if (((rd_T45 t212 0).f0) == 1 && (((rd_T45 t212 0).f1) == 3)) = true then ((surmiselaw03_sample.f).bind fun t216 => ((expr_Depth.f k t216).bind fun t219 => (some (t219 == 3)))) else (none)) else (none)) else (none)) else (none)) else (none)) else (none)) else (none)))))) = some r := by first | (rw [hy199]; with_reducible exact H) | (have H2_ := (Option.bind_some _ _).symm.trans H; rw [hy199]; with_reducible exact H2_) | (have H2_ := (Option.bind_some _ _).symm.trans H; with_reducible exact H2_) | with_reducible exact H | (rw [hy199]; exact H) | exact H
 have Ny199 := Am hy199
 clear hy199
 replace H := Option.bind_eq_some_iff.mp H
 obtain ⟨⟨t202, t203⟩, A20, H⟩ := H
 replace H : ((surmiselaw03_sample.f).bind fun t204 => ((expr_Check.f k t204 1 0).bind fun bt207 => ((expr_Fold.f k (([(⟨1, 1⟩ : S45), (⟨1, 2⟩ : S45), (⟨6, 0⟩ : S45)] : List (S45)))).bind fun t212 => (if t202 = 3 then (if t203 = 0 then (if bt207.1 = 1 then (if bt207.2 = 3 then (if (t212.length : Int) = 1 then (if 0 < (t212.length : Int) then (if (((rd_T45 t212 0).f0) == 1 && (((rd_T45 t212 0).f1) == 3)) = true then ((surmiselaw03_sample.f).bind fun t216 => ((expr_Depth.f k t216).bind fun t219 => (some (t219 == 3)))) else (none)) else (none)) else (none)) else (none)) else (none)) else (none)) else (none))))) = some r := H
 have A2 := Am A20
 clear A20
 replace H := Option.bind_eq_some_iff.mp H
 obtain ⟨t204, A30, H⟩ := H
 replace H : ((expr_Check.f k t204 1 0).bind fun bt207 => ((expr_Fold.f k (([(⟨1, 1⟩ : S45), (⟨1, 2⟩ : S45), (⟨6, 0⟩ : S45)] : List (S45)))).bind fun t212 => (if t202 = 3 then (if t203 = 0 then (if bt207.1 = 1 then (if bt207.2 = 3 then (if (t212.length : Int) = 1 then (if 0 < (t212.length : Int) then (if (((rd_T45 t212 0).f0) == 1 && (((rd_T45 t212 0).f1) == 3)) = true then ((surmiselaw03_sample.f).bind fun t216 => ((expr_Depth.f k t216).bind fun t219 => (some (t219 == 3)))) else (none)) else (none)) else (none)) else (none)) else (none)) else (none)) else (none)))) = some r := H
 have A3 := Am A30
 clear A30
 replace H := Option.bind_eq_some_iff.mp H
 obtain ⟨⟨t207, t208⟩, A40, H⟩ := H
 replace H : ((expr_Fold.f k (([(⟨1, 1⟩ : S45), (⟨1, 2⟩ : S45), (⟨6, 0⟩ : S45)] : List (S45)))).bind fun t212 => (if t202 = 3 then (if t203 = 0 then (if t207 = 1 then (if t208 = 3 then (if (t212.length : Int) = 1 then (if 0 < (t212.length : Int) then (if (((rd_T45 t212 0).f0) == 1 && (((rd_T45 t212 0).f1) == 3)) = true then ((surmiselaw03_sample.f).bind fun t216 => ((expr_Depth.f k t216).bind fun t219 => (some (t219 == 3)))) else (none)) else (none)) else (none)) else (none)) else (none)) else (none)) else (none))) = some r := H
 have A4 := Am A40
 clear A40
 obtain ⟨y209, hy209⟩ : ∃ y_ : List (S45), y_ = (([(⟨1, 1⟩ : S45), (⟨1, 2⟩ : S45), (⟨6, 0⟩ : S45)] : List (S45))) := ⟨_, rfl⟩
 replace H : ((expr_Fold.f k y209).bind fun t212 => (if t202 = 3 then (if t203 = 0 then (if t207 = 1 then (if t208 = 3 then (if (t212.length : Int) = 1 then (if 0 < (t212.length : Int) then (if (((rd_T45 t212 0).f0) == 1 && (((rd_T45 t212 0).f1) == 3)) = true then ((surmiselaw03_sample.f).bind fun t216 => ((expr_Depth.f k t216).bind fun t219 => (some (t219 == 3)))) else (none)) else (none)) else (none)) else (none)) else (none)) else (none)) else (none))) = some r := by first | (rw [hy209]; with_reducible exact H) | (have H2_ := (Option.bind_some _ _).symm.trans H; rw [hy209]; with_reducible exact H2_) | (have H2_ := (Option.bind_some _ _).symm.trans H; with_reducible exact H2_) | with_reducible exact H | (rw [hy209]; exact H) | exact H
 have Ny209 := Am hy209
 clear hy209
 replace H := Option.bind_eq_some_iff.mp H
 obtain ⟨t212, A50, H⟩ := H
 replace H : (if t202 = 3 then (if t203 = 0 then (if t207 = 1 then (if t208 = 3 then (if (t212.length : Int) = 1 then (if 0 < (t212.length : Int) then (if (((rd_T45 t212 0).f0) == 1 && (((rd_T45 t212 0).f1) == 3)) = true then ((surmiselaw03_sample.f).bind fun t216 => ((expr_Depth.f k t216).bind fun t219 => (some (t219 == 3)))) else (none)) else (none)) else (none)) else (none)) else (none)) else (none)) else (none)) = some r := H
 have A5 := Am A50
 clear A50
 by_cases c6 : t202 = 3
 ·
  rw [if_pos c6] at H
  have c6b0 : (t202 == 3) = true := beq_iff_eq.mpr c6
  have c6b1 : (t202 != 3) = false := bne_eq_false_iff_eq.mpr c6
  clear c6
  by_cases c7 : t203 = 0
  ·
   rw [if_pos c7] at H
   have c7b0 : (t203 == 0) = true := beq_iff_eq.mpr c7
   have c7b1 : (t203 != 0) = false := bne_eq_false_iff_eq.mpr c7
   clear c7
   by_cases c8 : t207 = 1
   ·
    rw [if_pos c8] at H
    have c8b0 : (t207 == 1) = true := beq_iff_eq.mpr c8
    have c8b1 : (t207 != 1) = false := bne_eq_false_iff_eq.mpr c8
    clear c8
    by_cases c9 : t208 = 3
    ·
     rw [if_pos c9] at H
     have c9b0 : (t208 == 3) = true := beq_iff_eq.mpr c9
     have c9b1 : (t208 != 3) = false := bne_eq_false_iff_eq.mpr c9
     clear c9
     by_cases c10 : (t212.length : Int) = 1
     ·
      rw [if_pos c10] at H
      have c10b0 : ((t212.length : Int) == 1) = true := beq_iff_eq.mpr c10
      have c10b1 : ((t212.length : Int) != 1) = false := bne_eq_false_iff_eq.mpr c10
      clear c10
      by_cases c11 : 0 < (t212.length : Int)
      ·
       rw [if_pos c11] at H
       have c11b0 : decide (0 < (t212.length : Int)) = true := decide_eq_true c11
       have c11b1 : decide (0 < t212.length) = true := decide_eq_true (by omega)
       clear c11
       by_cases c12 : (((rd_T45 t212 0).f0) == 1 && (((rd_T45 t212 0).f1) == 3)) = true
       ·
        rw [if_pos c12] at H
        have c12b0 : (((rd_T45 t212 0).f0) == 1 && (((rd_T45 t212 0).f1) == 3)) = true := c12
        (try (have c12b1 : decide (((rd_T45 t212 0).f0) = 1 && (((rd_T45 t212 0).f1) == 3)) = true := by simpa using c12))
        (try (have c12b2 : (((rd_T45 t212 0).f0) == 1 && (((rd_T45 t212 0).f1) == 3)) = true := by simpa using c12))
        clear c12
        replace H := Option.bind_eq_some_iff.mp H
        obtain ⟨t216, A130, H⟩ := H
        replace H : ((expr_Depth.f k t216).bind fun t219 => (some (t219 == 3))) = some r := H
        have A13 := Am A130
        clear A130
        replace H := Option.bind_eq_some_iff.mp H
        obtain ⟨t219, A140, H⟩ := H
        replace H : (some (t219 == 3)) = some r := H
        have A14 := Am A140
        clear A140
        obtain rfl := Option.some.inj H
        go_enter Try.func10, Try.ntmps10
        go_wp2_with (first | ((with_reducible refine gate_callee (f := 24) rfl ?_); refine goesL_ (some 7) rfl rfl Try.func24 (by kernel_rfl) rfl #[] rfl aq ?_; (with_reducible refine (surmiselaw03_sample.calls  t196 _ A1.out).mono ?_); rintro e w15 ⟨v197, rfl, ho0, hb⟩; refine ⟨_, rfl, ?_⟩; have n0_ := Am (Kd.R_lower ho0 (below_size (bl))); have n1_ := Am (below_step (bl) hb); clear HB; have HO198 := n0_; have HB := n1_; clear n0_ n1_; (try clear hb); (try clear hb2); (try clear hk); (try clear hi); (try clear ho0)) | ((with_reducible refine gate_dst (N := 8) rfl ?_); (try (refine gate_guard (by rfl) ?_; dsimp only)); refine Kd.R_lit (Kd.int .i64) _ 3 ?hg (N := 8) ?hd (xs := ([7, 2] : List Int)) (inner := [.int .i64 7, .int .i64 2]) (ok := fun _ => True) (okp := fun _ => True) ?hr ?hp (fun _ hk => hk) trivial (Below.refl _ _) (Nat.le_refl _) (by simp) ?_; (case hd => rfl); (case hg => rfl); (case hr => first | (go_simp; done) | (go_simp; rfl)); (case hp => exact (Reps.one (show Kd.M (Kd.int .i64) _ _ _ 7 [.int .i64 7] from rfl) (Reps.one (show Kd.M (Kd.int .i64) _ _ _ 2 [.int .i64 2] from rfl) (Reps.none _ _)))); intro v200 w16 ho17 hb hg_ hnew_; clear hg_ hnew_; (first | rw [← Ny199.out] at ho17 | (simp only [Int.reduceToNat] at ho17; rw [← Ny199.out] at ho17)); have n0_ := Am (Kd.R_below (kR HO198) hb); have n1_ := Am (Kd.R_lower ho17 (below_size (bl))); have n2_ := Am (below_step (bl) hb); clear HO198; clear HB; have HO198 := n0_; have HO201 := n1_; have HB := n2_; clear n0_ n1_ n2_; clear hb ho17; obtain ⟨Ao18, co18, eo18⟩ := Kd.R_slice HO198.out; subst eo18; obtain ⟨Ao19, co19, eo19⟩ := Kd.R_slice HO201.out; subst eo19) | ((with_reducible refine gate_callee (f := 11) rfl ?_); refine goesL_ (some 9) rfl rfl Try.func11 (by kernel_rfl) rfl #[.slice Ao18 t196.length co18, .slice Ao19 y199.length co19, .slice none 0 0] rfl aq ?_; (refine (expr_Eval.calls k _ _ t196 _ _ y199 _ _ ([] : List Int) t202 t203 _ ?side1 ?side2 ?side3 ?side4 ?side5 ?side6 A2.out).mono ?_); (case side1 => repeat (first | exact (Kd.R_reads' HO198.out).2.2 | (with_reducible refine Kd.C_alloc ?_ _) | (with_reducible refine Kd.C_drewN ?_ _) | (with_reducible refine Kd.C_drew ?_))); (case side2 => exact (Kd.R_reads' HO198.out).2.1); (case side3 => repeat (first | exact (Kd.R_reads' HO201.out).2.2 | (with_reducible refine Kd.C_alloc ?_ _) | (with_reducible refine Kd.C_drewN ?_ _) | (with_reducible refine Kd.C_drew ?_))); (case side4 => exact (Kd.R_reads' HO201.out).2.1); (case side5 => exact Kd.C_nil _ _); (case side6 => exact Nat.le_refl _); rintro e w20 ⟨rfl, hb⟩; refine ⟨_, rfl, ?_⟩; have n0_ := Am (Kd.R_below (kR HO198) hb); have n1_ := Am (Kd.R_below (kR HO201) hb); have n2_ := Am (below_step (bl) hb); clear HO198; clear HO201; clear HB; have HO198 := n0_; have HO201 := n1_; have HB := n2_; clear n0_ n1_ n2_; (try clear hb); (try clear hb2); (try clear hk); (try clear hi)) | ((with_reducible refine gate_callee (f := 24) rfl ?_); refine goesL_ (some 13) rfl rfl Try.func24 (by kernel_rfl) rfl #[] rfl aq ?_; (with_reducible refine (surmiselaw03_sample.calls  t204 _ A3.out).mono ?_); rintro e w21 ⟨v205, rfl, ho0, hb⟩; refine ⟨_, rfl, ?_⟩; have n0_ := Am (Kd.R_elder' (kR HO198) (Kd.R_base ho0) hb); have n1_ := Am (Kd.R_below (kR HO201) hb); have n2_ := Am (Kd.R_lower (Kd.R_new' ho0 (Kd.R_lt (kR HO198))) (below_size (bl))); have n3_ := Am (below_step (bl) hb); clear HO198; clear HO201; clear HB; have HO198 := n0_; have HO201 := n1_; have HO206 := n2_; have HB := n3_; clear n0_ n1_ n2_ n3_; (try clear hb); (try clear hb2); (try clear hk); (try clear hi); (try clear ho0); obtain ⟨Ao22, co22, eo22⟩ := Kd.R_slice HO206.out; subst eo22) | ((with_reducible refine gate_callee (f := 8) rfl ?_); refine goesL_ (some 14) rfl rfl Try.func8 (by kernel_rfl) rfl #[.slice Ao22 t204.length co22, .int .i64 1, .int .i64 0] rfl aq ?_; (with_reducible refine (expr_Check.calls k _ _ t204 1 0 t207 t208 _ ?side1 ?side2 A4.out).mono ?_); (case side1 => repeat (first | exact (Kd.R_reads' HO206.out).2.2 | (with_reducible refine Kd.C_alloc ?_ _) | (with_reducible refine Kd.C_drewN ?_ _) | (with_reducible refine Kd.C_drew ?_))); (case side2 => exact (Kd.R_reads' HO206.out).2.1); rintro e w23 ⟨rfl, hb⟩; refine ⟨_, rfl, ?_⟩; have n0_ := Am (Kd.R_below (kR HO198) hb); have n1_ := Am (Kd.R_below (kR HO201) hb); have n2_ := Am (Kd.R_below (kR HO206) hb); have n3_ := Am (below_step (bl) hb); clear HO198; clear HO201; clear HO206; clear HB; have HO198 := n0_; have HO201 := n1_; have HO206 := n2_; have HB := n3_; clear n0_ n1_ n2_ n3_; (try clear hb); (try clear hb2); (try clear hk); (try clear hi)) | ((with_reducible refine gate_dst (N := 20) rfl ?_); (try (refine gate_guard (by rfl) ?_; dsimp only)); refine Kd.R_lit k45 _ 45 ?hg (N := 20) ?hd (xs := ([(⟨1, 1⟩ : S45), (⟨1, 2⟩ : S45), (⟨6, 0⟩ : S45)] : List (S45))) (inner := [.int .i64 1, .int .i64 1, .int .i64 1, .int .i64 2, .int .i64 6, .int .i64 0]) (ok := fun _ => True) (okp := fun _ => True) ?hr ?hp (fun _ hk => hk) trivial (Below.refl _ _) (Nat.le_refl _) (by simp) ?_; (case hd => rfl); (case hg => rfl); (case hr => first | (go_simp; done) | (go_simp; rfl)); (case hp => exact (Reps.c2 (show Kd.M k45 _ _ _ (⟨1, 1⟩ : S45) [.int .i64 1, .int .i64 1] from (k45_mkM _ _ _ (⟨1, 1⟩ : S45) )) (Reps.c2 (show Kd.M k45 _ _ _ (⟨1, 2⟩ : S45) [.int .i64 1, .int .i64 2] from (k45_mkM _ _ _ (⟨1, 2⟩ : S45) )) (Reps.c2 (show Kd.M k45 _ _ _ (⟨6, 0⟩ : S45) [.int .i64 6, .int .i64 0] from (k45_mkM _ _ _ (⟨6, 0⟩ : S45) )) (Reps.none _ _))))); intro v210 w24 ho25 hb hg_ hnew_; clear hg_ hnew_; (first | rw [← Ny209.out] at ho25 | (simp only [Int.reduceToNat] at ho25; rw [← Ny209.out] at ho25)); have n0_ := Am (Kd.R_elder' (kR HO198) (Kd.R_base ho25) hb); have n1_ := Am (Kd.R_below (kR HO201) hb); have n2_ := Am (Kd.R_elder' (kR HO206) (Kd.R_base ho25) hb); have n3_ := Am (Kd.R_lower (Kd.R_new' (Kd.R_new' ho25 (Kd.R_lt (kR HO198))) (Kd.R_lt (kR HO206))) (below_size (bl))); have n4_ := Am (below_step (bl) hb); clear HO198; clear HO201; clear HO206; clear HB; have HO198 := n0_; have HO201 := n1_; have HO206 := n2_; have HO211 := n3_; have HB := n4_; clear n0_ n1_ n2_ n3_ n4_; clear hb ho25; obtain ⟨Ao26, co26, eo26⟩ := Kd.R_slice HO211.out; subst eo26) | ((with_reducible refine gate_callee (f := 13) rfl ?_); refine goesL_ (some 21) rfl rfl Try.func13 (by kernel_rfl) rfl #[.slice Ao26 y209.length co26] rfl aq ?_; (with_reducible refine (expr_Fold.calls k _ _ y209 t212 _ ?side1 ?side2 A5.out).mono ?_); (case side1 => repeat (first | exact (Kd.R_reads' HO211.out).2.2 | (with_reducible refine Kd.C_alloc ?_ _) | (with_reducible refine Kd.C_drewN ?_ _) | (with_reducible refine Kd.C_drew ?_))); (case side2 => exact (Kd.R_reads' HO211.out).2.1); rintro e w27 ⟨v213, rfl, ho0, hb⟩; refine ⟨_, rfl, ?_⟩; have n0_ := Am (Kd.R_elder' (kR HO198) (Kd.R_base ho0) hb); have n1_ := Am (Kd.R_below (kR HO201) hb); have n2_ := Am (Kd.R_elder' (kR HO206) (Kd.R_base ho0) hb); have n3_ := Am (Kd.R_elder' (kR HO211) (Kd.R_base ho0) hb); have n4_ := Am (Kd.R_lower (Kd.R_new' (Kd.R_new' (Kd.R_new' ho0 (Kd.R_lt (kR HO198))) (Kd.R_lt (kR HO206))) (Kd.R_lt (kR HO211))) (below_size (bl))); have n5_ := Am (below_step (bl) hb); clear HO198; clear HO201; clear HO206; clear HO211; clear HB; have HO198 := n0_; have HO201 := n1_; have HO206 := n2_; have HO211 := n3_; have HO214 := n4_; have HB := n5_; clear n0_ n1_ n2_ n3_ n4_ n5_; (try clear hb); (try clear hb2); (try clear hk); (try clear hi); (try clear ho0); obtain ⟨Ao28, co28, eo28⟩ := Kd.R_slice HO214.out; subst eo28; have p215 : 0 ≤ (0 : Int) := (by omega); have q215 : 0 < (t212.length : Int) := of_decide_eq_true az; obtain ⟨ad215, e215, hx215_0, hx215_1⟩ := at_T45 (Kd.R_reads' HO214.out).2.2 0 p215 q215; cases e215; have qi215 : (0 < t212.length) = True := eq_true (by omega); (try rw [show ((0 : Int)).toNat = 0 from rfl] at hx215_0); (try rw [show 0 * 2 = 0 from rfl] at hx215_0); (try rw [Addr.add_zero'] at hx215_0); (try rw [show ((0 : Int)).toNat = 0 from rfl] at hx215_1); (try rw [show 0 * 2 = 0 from rfl] at hx215_1); (try rw [Addr.add_zero'] at hx215_1); replace p215 := eq_true p215; replace q215 := eq_true q215) | (go_at_call 24; (with_reducible refine (surmiselaw03_sample.calls  t216 _ A13.out).mono ?_); rintro e w29 ⟨v217, rfl, ho0, hb⟩; have n0_ := Am (Kd.R_elder' (kR HO198) (Kd.R_base ho0) hb); have n1_ := Am (Kd.R_below (kR HO201) hb); have n2_ := Am (Kd.R_elder' (kR HO206) (Kd.R_base ho0) hb); have n3_ := Am (Kd.R_elder' (kR HO211) (Kd.R_base ho0) hb); have n4_ := Am (Kd.R_elder' (kR HO214) (Kd.R_base ho0) hb); have n5_ := Am (Kd.R_lower (Kd.R_new' (Kd.R_new' (Kd.R_new' (Kd.R_new' ho0 (Kd.R_lt (kR HO198))) (Kd.R_lt (kR HO206))) (Kd.R_lt (kR HO211))) (Kd.R_lt (kR HO214))) (below_size (bl))); have n6_ := Am (below_step (bl) hb); clear HO198; clear HO201; clear HO206; clear HO211; clear HO214; clear HB; have HO198 := n0_; have HO201 := n1_; have HO206 := n2_; have HO211 := n3_; have HO214 := n4_; have HO218 := n5_; have HB := n6_; clear n0_ n1_ n2_ n3_ n4_ n5_ n6_; (try clear hb); (try clear hb2); (try clear hk); (try clear hi); (try clear ho0); obtain ⟨Ao30, co30, eo30⟩ := Kd.R_slice HO218.out; subst eo30) | (go_at_call 18; (with_reducible refine (expr_Depth.calls k _ _ t216 t219 _ ?side1 ?side2 A14.out).mono ?_); (case side1 => repeat (first | exact (Kd.R_reads' HO218.out).2.2 | (with_reducible refine Kd.C_alloc ?_ _) | (with_reducible refine Kd.C_drewN ?_ _) | (with_reducible refine Kd.C_drew ?_))); (case side2 => exact (Kd.R_reads' HO218.out).2.1); rintro e w31 ⟨rfl, hb⟩; have n0_ := Am (Kd.R_below (kR HO198) hb); have n1_ := Am (Kd.R_below (kR HO201) hb); have n2_ := Am (Kd.R_below (kR HO206) hb); have n3_ := Am (Kd.R_below (kR HO211) hb); have n4_ := Am (Kd.R_below (kR HO214) hb); have n5_ := Am (Kd.R_below (kR HO218) hb); have n6_ := Am (below_step (bl) hb); clear HO198; clear HO201; clear HO206; clear HO211; clear HO214; clear HO218; clear HB; have HO198 := n0_; have HO201 := n1_; have HO206 := n2_; have HO211 := n3_; have HO214 := n4_; have HO218 := n5_; have HB := n6_; clear n0_ n1_ n2_ n3_ n4_ n5_ n6_; (try clear hb); (try clear hb2); (try clear hk); (try clear hi)))
        go_ret
        exact ⟨xq, bl⟩
       ·
        rw [if_neg c12] at H
        exact absurd H (by simp)
      ·
       rw [if_neg c11] at H
       exact absurd H (by simp)
     ·
      rw [if_neg c10] at H
      exact absurd H (by simp)
    ·
     rw [if_neg c9] at H
     exact absurd H (by simp)
   ·
    rw [if_neg c8] at H
    exact absurd H (by simp)
  ·
   rw [if_neg c7] at H
   exact absurd H (by simp)
 ·
  rw [if_neg c6] at H
  exact absurd H (by simp)

/-! ### surmiselaw03_ExprChecks: function 3 -/
def surmiselaw03_ExprChecks.f (k : Nat) (l0 : List (S45)) (a1 : Int) (a2 : Int) : Option (Bool) := (expr_Check.f k l0 a1 a2).bind fun bt220 => ((surmiseref03_Check.f k l0 a1 a2).bind fun bt222 => ((surmiselaw03_awake.f k).bind fun t224 => (if t224 = true then (if bt220.1 = bt222.1 then (some (bt220.2 == bt222.2)) else (none)) else (none))))
theorem surmiselaw03_ExprChecks.mono : ∀ a0 a1 a2 k, LeO (surmiselaw03_ExprChecks.f k a0 a1 a2) (surmiselaw03_ExprChecks.f (k + 1) a0 a1 a2) := by
 intro a0 a1 a2 k
 unfold surmiselaw03_ExprChecks.f
 repeat' first
   | (with_reducible exact expr_Check.mono _ _ _ _)
   | (with_reducible exact surmiselaw03_awake.mono _)
   | (with_reducible exact surmiseref03_Check.mono _ _ _ _)
   | (with_reducible exact LeO.refl _)
   | (with_reducible exact LeO.none _)
   | (with_reducible refine LeO.ite ?_ ?_)
   | (with_reducible refine LeO.bind ?_ (fun _ => ?_))
   | exact expr_Check.mono _ _ _ _
   | exact surmiselaw03_awake.mono _
   | exact surmiseref03_Check.mono _ _ _ _
   | exact LeO.none _
   | refine LeO.ite ?_ ?_
   | refine LeO.bind ?_ (fun _ => ?_)
set_option maxHeartbeats 8000000 in
set_option maxRecDepth 100000 in
theorem surmiselaw03_ExprChecks.calls (k : Nat) (A0 : Option Addr) (c0 : Nat) (l0 : List (S45)) (a1 : Int) (a2 : Int) (r : Bool) (w : World) (hr0 : Kd.C k45 w A0 l0.length l0) (hc0 : l0.length ≤ c0) (h : surmiselaw03_ExprChecks.f k l0 a1 a2 = some r) :
  Calls Try.prog 3 #[.slice A0 l0.length c0, .int .i64 a1, .int .i64 a2] w fun e w' => e = .returned (.bool r) ∧ Below w.heap.size w w' := by
 have HR0 := Am hr0
 have HC0 := Am hc0
 clear hr0 hc0
 have HB := Am (Below.refl w.heap.size w)
 have H : ((expr_Check.f k l0 a1 a2).bind fun bt220 => ((surmiseref03_Check.f k l0 a1 a2).bind fun bt222 => ((surmiselaw03_awake.f k).bind fun t224 => (if t224 = true then (if bt220.1 = bt222.1 then (some (bt220.2 == bt222.2)) else (none)) else (none))))) = some r := h
 clear h
 replace H := Option.bind_eq_some_iff.mp H
 obtain ⟨⟨t220, t221⟩, A40, H⟩ := H
 replace H : ((surmiseref03_Check.f k l0 a1 a2).bind fun bt222 => ((surmiselaw03_awake.f k).bind fun t224 => (if t224 = true then (if t220 = bt222.1 then (some (t221 == bt222.2)) else (none)) else (none)))) = some r := H
 have A4 := Am A40
 clear A40
 replace H := Option.bind_eq_some_iff.mp H
 obtain ⟨⟨t222, t223⟩, A50, H⟩ := H
 replace H : ((surmiselaw03_awake.f k).bind fun t224 => (if t224 = true then (if t220 = t222 then (some (t221 == t223)) else (none)) else (none))) = some r := H
 have A5 := Am A50
 clear A50
 replace H := Option.bind_eq_some_iff.mp H
 obtain ⟨t224, A60, H⟩ := H
 replace H : (if t224 = true then (if t220 = t222 then (some (t221 == t223)) else (none)) else (none)) = some r := H
 have A6 := Am A60
 clear A60
 by_cases c7 : t224 = true
 ·
  subst c7
  have H1 : (if t220 = t222 then (some (t221 == t223)) else (none)) = some r := by rw [if_pos rfl] at H; exact H
  clear H
  have H := H1
  clear H1
  by_cases c8 : t220 = t222
  ·
   rw [if_pos c8] at H
   have c8b0 : (t220 == t222) = true := beq_iff_eq.mpr c8
   have c8b1 : (t220 != t222) = false := bne_eq_false_iff_eq.mpr c8
   clear c8
   obtain rfl := Option.some.inj H
   go_enter Try.func3, Try.ntmps3
   go_wp2_with (first | ((with_reducible refine gate_callee (f := 8) rfl ?_); refine goesL_ (some 15) rfl rfl Try.func8 (by kernel_rfl) rfl #[.slice A0 l0.length c0, .int .i64 a1, .int .i64 a2] rfl aq ?_; (with_reducible refine (expr_Check.calls k _ _ l0 a1 a2 t220 t221 _ ?side1 ?side2 A4.out).mono ?_); (case side1 => repeat (first | exact HR0.out | (with_reducible refine Kd.C_alloc ?_ _) | (with_reducible refine Kd.C_drewN ?_ _) | (with_reducible refine Kd.C_drew ?_))); (case side2 => exact HC0.out); rintro e w9 ⟨rfl, hb⟩; refine ⟨_, rfl, ?_⟩; have n0_ := Am (below_step (bl) hb); clear HB; have HB := n0_; clear n0_; (try clear hb); (try clear hb2); (try clear hk); (try clear hi)) | ((with_reducible refine gate_callee (f := 9) rfl ?_); refine goesL_ (some 22) rfl rfl Try.func9 (by kernel_rfl) rfl #[.slice A0 l0.length c0, .int .i64 a1, .int .i64 a2] rfl aq ?_; (with_reducible refine (surmiseref03_Check.calls k _ _ l0 a1 a2 t222 t223 _ ?side1 ?side2 A5.out).mono ?_); (case side1 => repeat (first | exact (Kd.C_below HR0.out HB.out) | (with_reducible refine Kd.C_alloc ?_ _) | (with_reducible refine Kd.C_drewN ?_ _) | (with_reducible refine Kd.C_drew ?_))); (case side2 => exact HC0.out); rintro e w10 ⟨rfl, hb⟩; refine ⟨_, rfl, ?_⟩; have n0_ := Am (below_step (bl) hb); clear HB; have HB := n0_; clear n0_; (try clear hb); (try clear hb2); (try clear hk); (try clear hi)) | ((with_reducible refine gate_callee (f := 10) rfl ?_); refine goesL_ (some 25) rfl rfl Try.func10 (by kernel_rfl) rfl #[] rfl aq ?_; (with_reducible refine (surmiselaw03_awake.calls k  true _ A6.out).mono ?_); rintro e w11 ⟨rfl, hb⟩; refine ⟨_, rfl, ?_⟩; have n0_ := Am (below_step (bl) hb); clear HB; have HB := n0_; clear n0_; (try clear hb); (try clear hb2); (try clear hk); (try clear hi)))
   go_ret
   exact ⟨xq, bl⟩
  ·
   rw [if_neg c8] at H
   exact absurd H (by simp)
 ·
  replace c7 := Bool.eq_false_iff.mpr c7
  subst c7
  have H1 : (none) = some r := by rw [if_neg (show ¬ (false = true) by decide)] at H; exact H
  clear H
  have H := H1
  clear H1
  exact absurd H (by simp)

/-! ### surmiseref03_one: function 33 -/
def surmiseref03_one.f (a0 : Bool) : Option (Int) := if a0 = true then (some 1) else (some 0)
set_option maxHeartbeats 8000000 in
set_option maxRecDepth 100000 in
theorem surmiseref03_one.calls (a0 : Bool) (r : Int) (w : World) (h : surmiseref03_one.f a0 = some r) :
  Calls Try.prog 33 #[.bool a0] w fun e w' => e = .returned (.int .i64 r) ∧ Drawn0 w w' := by
 have H : (if a0 = true then (some 1) else (some 0)) = some r := h
 clear h
 by_cases c2 : a0 = true
 ·
  subst c2
  have H1 : (some 1) = some r := by rw [if_pos rfl] at H; exact H
  clear H
  have H := H1
  clear H1
  obtain rfl := Option.some.inj H
  go_enter Try.func33, Try.ntmps33
  go_wp2
  go_ret
  exact ⟨by first | rfl | (simp; done) | (simp [*]; done), by repeat (first | exact Drawn0.refl _ | apply Drawn0.step)⟩
 ·
  replace c2 := Bool.eq_false_iff.mpr c2
  subst c2
  have H1 : (some 0) = some r := by rw [if_neg (show ¬ (false = true) by decide)] at H; exact H
  clear H
  have H := H1
  clear H1
  obtain rfl := Option.some.inj H
  go_enter Try.func33, Try.ntmps33
  go_wp2
  go_ret
  exact ⟨by first | rfl | (simp; done) | (simp [*]; done), by repeat (first | exact Drawn0.refl _ | apply Drawn0.step)⟩

/-! ### surmiseref03_Times: function 34 -/
def surmiseref03_Times.f (a0 : Int) (a1 : Int) : Option (Int × Bool) := if (wrap64 (a0 * (wrap64 (Int.tdiv a1 1048576)))) > 2097152 then (some (0, false)) else (if (wrap64 (a0 * (wrap64 (Int.tdiv a1 1048576)))) < (-2097152) then (some (0, false)) else ((surmiseref03_Value.f (wrap64 ((wrap64 ((wrap64 (a0 * (wrap64 (Int.tdiv a1 1048576)))) * 1048576)) + (wrap64 (a0 * (Int.tmod a1 1048576)))))).bind fun t225 => (some (wrap64 ((wrap64 ((wrap64 (a0 * (wrap64 (Int.tdiv a1 1048576)))) * 1048576)) + (wrap64 (a0 * (Int.tmod a1 1048576)))), t225))))
set_option maxHeartbeats 8000000 in
set_option maxRecDepth 100000 in
theorem surmiseref03_Times.calls (a0 : Int) (a1 : Int) (r1 : Int) (r2 : Bool) (w : World) (h : surmiseref03_Times.f a0 a1 = some (r1, r2)) :
  Calls Try.prog 34 #[.int .i64 a0, .int .i64 a1] w fun e w' => e = .returned (.tuple #[.int .i64 r1, .bool r2]) ∧ Drawn0 w w' := by
 have H : (if (wrap64 (a0 * (wrap64 (Int.tdiv a1 1048576)))) > 2097152 then (some (0, false)) else (if (wrap64 (a0 * (wrap64 (Int.tdiv a1 1048576)))) < (-2097152) then (some (0, false)) else ((surmiseref03_Value.f (wrap64 ((wrap64 ((wrap64 (a0 * (wrap64 (Int.tdiv a1 1048576)))) * 1048576)) + (wrap64 (a0 * (Int.tmod a1 1048576)))))).bind fun t225 => (some (wrap64 ((wrap64 ((wrap64 (a0 * (wrap64 (Int.tdiv a1 1048576)))) * 1048576)) + (wrap64 (a0 * (Int.tmod a1 1048576)))), t225))))) = some (r1, r2) := h
 clear h
 by_cases c3 : (wrap64 (a0 * (wrap64 (Int.tdiv a1 1048576)))) > 2097152
 ·
  rw [if_pos c3] at H
  have c3b0 : decide (2097152 < (wrap64 (a0 * (wrap64 (Int.tdiv a1 1048576))))) = true := decide_eq_true c3
  clear c3
  simp only [Option.some.injEq, Prod.mk.injEq] at H
  obtain ⟨rfl, rfl⟩ := H
  go_enter Try.func34, Try.ntmps34
  go_wp2
  go_ret2
  exact ⟨by first | rfl | (simp; done) | (simp [*]; done), by repeat (first | exact Drawn0.refl _ | apply Drawn0.step)⟩
 ·
  rw [if_neg c3] at H
  have c3b0 : decide (2097152 < (wrap64 (a0 * (wrap64 (Int.tdiv a1 1048576))))) = false := decide_eq_false c3
  clear c3
  by_cases c4 : (wrap64 (a0 * (wrap64 (Int.tdiv a1 1048576)))) < (-2097152)
  ·
   rw [if_pos c4] at H
   have c4b0 : decide ((wrap64 (a0 * (wrap64 (Int.tdiv a1 1048576)))) < (-2097152)) = true := decide_eq_true c4
   clear c4
   simp only [Option.some.injEq, Prod.mk.injEq] at H
   obtain ⟨rfl, rfl⟩ := H
   go_enter Try.func34, Try.ntmps34
   go_wp2
   go_ret2
   exact ⟨by first | rfl | (simp; done) | (simp [*]; done), by repeat (first | exact Drawn0.refl _ | apply Drawn0.step)⟩
  ·
   rw [if_neg c4] at H
   have c4b0 : decide ((wrap64 (a0 * (wrap64 (Int.tdiv a1 1048576)))) < (-2097152)) = false := decide_eq_false c4
   clear c4
   replace H := Option.bind_eq_some_iff.mp H
   obtain ⟨t225, A50, H⟩ := H
   replace H : (some (wrap64 ((wrap64 ((wrap64 (a0 * (wrap64 (Int.tdiv a1 1048576)))) * 1048576)) + (wrap64 (a0 * (Int.tmod a1 1048576)))), t225)) = some (r1, r2) := H
   have A5 := Am A50
   clear A50
   simp only [Option.some.injEq, Prod.mk.injEq] at H
   obtain ⟨rfl, rfl⟩ := H
   go_enter Try.func34, Try.ntmps34
   go_wp2_with (first | ((with_reducible refine gate_callee (f := 20) rfl ?_); refine goesL_ (some 29) rfl rfl Try.func20 (by kernel_rfl) rfl #[.int .i64 (wrap64 ((wrap64 ((wrap64 (a0 * (wrap64 (Int.tdiv a1 1048576)))) * 1048576)) + (wrap64 (a0 * (Int.tmod a1 1048576)))))] rfl aq ?_; (with_reducible refine (surmiseref03_Value.calls (wrap64 ((wrap64 ((wrap64 (a0 * (wrap64 (Int.tdiv a1 1048576)))) * 1048576)) + (wrap64 (a0 * (Int.tmod a1 1048576))))) t225 _ A5.out).mono ?_); rintro e w' ⟨rfl, ⟨nd, rfl⟩⟩; refine ⟨_, rfl, ?_⟩))
   go_ret2
   exact ⟨by first | rfl | (simp; done) | (simp [*]; done), by repeat (first | exact Drawn0.refl _ | apply Drawn0.step)⟩

end Go.Proofs.Ythhnecbfcpmpbaa.PA
