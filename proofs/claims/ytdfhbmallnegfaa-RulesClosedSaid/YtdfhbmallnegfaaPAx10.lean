-- Written by a program (wip/tools/gprint.py: a patched copy of the kit's print) and by hand, for this claim
import Derived.Test.YtdfhbmallnegfaaPAx0
import Derived.Test.YtdfhbmallnegfaaPAx1
import Derived.Test.YtdfhbmallnegfaaPAx3
import Derived.Test.YtdfhbmallnegfaaPAx8
import Derived.Test.YtdfhbmallnegfaaPAx9
namespace Go.Proofs.Ytdfhbmallnegfaa.PA
open Go.RowKit Go.Proofs.YtdfhbmallnegfaaW.PrintWords Go.Proofs.YtdfhbmallnegfaaW.PrintLast Go.Proofs.YtdfhbmallnegfaaW.PrintMore
attribute [local go_sem] max2_int min2_int max_two min_two max_three min_three max_four min_four   -- for this text's walks alone
set_option linter.unusedVariables false
set_option linter.unusedSimpArgs false

attribute [local go_sem high] eqA30
/-! ### surmiselaw05_awake: function 9 -/
def surmiselaw05_awake.f (k : Nat)  : Option (Bool) := (surmiselaw05_Sample.f).bind fun bt386 => ((rules_Reach.f k bt386.1 bt386.2.1 bt386.2.2.1 bt386.2.2.2).bind fun t399 => ((surmiselaw05_Sample.f).bind fun bt402 => (if 1 < (bt402.2.2.2.length : Int) then ((rules_Check.f k bt386.1 bt386.2.1 bt386.2.2.1 bt386.2.2.2).bind fun bt419 => (if (bt419.1 == 0 && (bt419.2.1 == 0 && (bt419.2.2.1 == 0 && (bt419.2.2.2 == 0)))) = true then ((rules_Find.f k bt386.1 bt386.2.1 bt386.2.2.1 bt386.2.2.2 (⟨#[99, 108, 111, 115, 101]⟩ : ByteArray)).bind fun t423 => (if t423 = 2 then (if (t399.length : Int) = 3 then (if 2 < (t399.length : Int) then (if rdOf false t399 2 = true then ((rules_For.f k bt386.1 bt386.2.1 bt386.2.2.1 bt386.2.2.2 3 2).bind fun t425 => (if t425 = true then ((rules_For.f k bt386.1 bt386.2.1 bt386.2.2.1 bt386.2.2.2 0 2).bind fun t426 => (if t426 = true then (none) else ((rules_Check.f k bt402.1 bt402.2.1 bt402.2.2.1 (bt402.2.2.2.set (1 : Int).toNat (⟨(rd_T38 bt402.2.2.2 1).f0, (rd_T38 bt402.2.2.2 1).f1, (([3] : List Int)), (rd_T38 bt402.2.2.2 1).f3, (rd_T38 bt402.2.2.2 1).f4⟩ : S38))).bind fun bt427 => (some (bt427.1 == 3 && (bt427.2.1 == 1 && (bt427.2.2.1 == 7 && (bt427.2.2.2 == 0)))))))) else (none))) else (none)) else (none)) else (none)) else (none))) else (none))) else (none))))
theorem surmiselaw05_awake.mono : ∀ k, LeO (surmiselaw05_awake.f k ) (surmiselaw05_awake.f (k + 1) ) := by
 intro  k
 unfold surmiselaw05_awake.f
 repeat' first
   | (with_reducible exact rules_Check.mono _ _ _ _ _)
   | (with_reducible exact rules_Find.mono _ _ _ _ _ _)
   | (with_reducible exact rules_For.mono _ _ _ _ _ _ _)
   | (with_reducible exact rules_Reach.mono _ _ _ _ _)
   | (with_reducible exact LeO.refl _)
   | (with_reducible exact LeO.none _)
   | (with_reducible refine LeO.ite ?_ ?_)
   | (with_reducible refine LeO.bind ?_ (fun _ => ?_))
   | exact rules_Check.mono _ _ _ _ _
   | exact rules_Find.mono _ _ _ _ _ _
   | exact rules_For.mono _ _ _ _ _ _ _
   | exact rules_Reach.mono _ _ _ _ _
   | exact LeO.none _
   | refine LeO.ite ?_ ?_
   | refine LeO.bind ?_ (fun _ => ?_)
set_option maxHeartbeats 8000000 in
set_option maxRecDepth 100000 in
theorem surmiselaw05_awake.calls (k : Nat)  (r : Bool) (w : World) (h : surmiselaw05_awake.f k  = some r) :
  Calls Try.prog 9 #[] w fun e w' => e = .returned (.bool r) ∧ Below w.heap.size w w' := by
 have hu26 := Try.underlying26
 have hu30 := Try.underlying30
 have HB := Am (Below.refl w.heap.size w)
 have H : ((surmiselaw05_Sample.f).bind fun bt386 => ((rules_Reach.f k bt386.1 bt386.2.1 bt386.2.2.1 bt386.2.2.2).bind fun t399 => ((surmiselaw05_Sample.f).bind fun bt402 => (if 1 < (bt402.2.2.2.length : Int) then ((rules_Check.f k bt386.1 bt386.2.1 bt386.2.2.1 bt386.2.2.2).bind fun bt419 => (if (bt419.1 == 0 && (bt419.2.1 == 0 && (bt419.2.2.1 == 0 && (bt419.2.2.2 == 0)))) = true then ((rules_Find.f k bt386.1 bt386.2.1 bt386.2.2.1 bt386.2.2.2 (⟨#[99, 108, 111, 115, 101]⟩ : ByteArray)).bind fun t423 => (if t423 = 2 then (if (t399.length : Int) = 3 then (if 2 < (t399.length : Int) then (if rdOf false t399 2 = true then ((rules_For.f k bt386.1 bt386.2.1 bt386.2.2.1 bt386.2.2.2 3 2).bind fun t425 => (if t425 = true then ((rules_For.f k bt386.1 bt386.2.1 bt386.2.2.1 bt386.2.2.2 0 2).bind fun t426 => (if t426 = true then (none) else ((rules_Check.f k bt402.1 bt402.2.1 bt402.2.2.1 (bt402.2.2.2.set (1 : Int).toNat (⟨(rd_T38 bt402.2.2.2 1).f0, (rd_T38 bt402.2.2.2 1).f1, (([3] : List Int)), (rd_T38 bt402.2.2.2 1).f3, (rd_T38 bt402.2.2.2 1).f4⟩ : S38))).bind fun bt427 => (some (bt427.1 == 3 && (bt427.2.1 == 1 && (bt427.2.2.1 == 7 && (bt427.2.2.2 == 0)))))))) else (none))) else (none)) else (none)) else (none)) else (none))) else (none))) else (none))))) = some r := h
 clear h
 obtain ⟨⟨t386, t389, t392, t395⟩, A10, H⟩ := Option.bind_eq_some_iff.mp H
 try dsimp only at H
 have A1 := Am A10
 clear A10
 obtain ⟨t399, A20, H⟩ := Option.bind_eq_some_iff.mp H
 try dsimp only at H
 have A2 := Am A20
 clear A20
 obtain ⟨⟨t402, t405, t408, t411⟩, A30, H⟩ := Option.bind_eq_some_iff.mp H
 try dsimp only at H
 have A3 := Am A30
 clear A30
 obtain ⟨y415, hy415⟩ : ∃ y_ : List Int, y_ = (([3] : List Int)) := ⟨_, rfl⟩
 rw [← hy415] at H
 have Ny415 := Am hy415
 clear hy415
 by_cases c4 : 1 < (t411.length : Int)
 ·
  rw [if_pos c4] at H
  have c4b0 : decide (1 < (t411.length : Int)) = true := decide_eq_true c4
  have c4b1 : decide (1 < t411.length) = true := decide_eq_true (by omega)
  clear c4
  obtain ⟨y418, hy418⟩ : ∃ y_ : List (S38), y_ = (t411.set (1 : Int).toNat (⟨(rd_T38 t411 1).f0, (rd_T38 t411 1).f1, y415, (rd_T38 t411 1).f3, (rd_T38 t411 1).f4⟩ : S38)) := ⟨_, rfl⟩
  rw [← hy418] at H
  have Ny418 := Am hy418
  clear hy418
  obtain ⟨⟨t419, t420, t421, t422⟩, A60, H⟩ := Option.bind_eq_some_iff.mp H
  try dsimp only at H
  have A6 := Am A60
  clear A60
  by_cases c7 : (t419 == 0 && (t420 == 0 && (t421 == 0 && (t422 == 0)))) = true
  ·
   rw [if_pos c7] at H
   have c7b0 : (t419 == 0 && (t420 == 0 && (t421 == 0 && (t422 == 0)))) = true := c7
   (try (have c7b1 : decide (t419 = 0 && (t420 == 0 && (t421 == 0 && (t422 == 0)))) = true := by simpa using c7))
   (try (have c7b2 : (t419 == 0 && (t420 == 0 && (t421 == 0 && (t422 == 0)))) = true := by simpa using c7))
   clear c7
   obtain ⟨t423, A80, H⟩ := Option.bind_eq_some_iff.mp H
   try dsimp only at H
   have A8 := Am A80
   clear A80
   by_cases c9 : t423 = 2
   ·
    rw [if_pos c9] at H
    have c9b0 : (t423 == 2) = true := beq_iff_eq.mpr c9
    have c9b1 : (t423 != 2) = false := bne_eq_false_iff_eq.mpr c9
    clear c9
    by_cases c10 : (t399.length : Int) = 3
    ·
     rw [if_pos c10] at H
     have c10b0 : ((t399.length : Int) == 3) = true := beq_iff_eq.mpr c10
     have c10b1 : ((t399.length : Int) != 3) = false := bne_eq_false_iff_eq.mpr c10
     clear c10
     by_cases c11 : 2 < (t399.length : Int)
     ·
      rw [if_pos c11] at H
      have c11b0 : decide (2 < (t399.length : Int)) = true := decide_eq_true c11
      have c11b1 : decide (2 < t399.length) = true := decide_eq_true (by omega)
      clear c11
      obtain ⟨bq12, hbq12⟩ : ∃ b_ : Bool, b_ = (rdOf false t399 2) := ⟨_, rfl⟩
      replace H : (if bq12 = true then ((rules_For.f k t386 t389 t392 t395 3 2).bind fun t425 => (if t425 = true then ((rules_For.f k t386 t389 t392 t395 0 2).bind fun t426 => (if t426 = true then (none) else ((rules_Check.f k t402 t405 t408 y418).bind fun bt427 => (some (bt427.1 == 3 && (bt427.2.1 == 1 && (bt427.2.2.1 == 7 && (bt427.2.2.2 == 0)))))))) else (none))) else (none)) = some r := by rw [← hbq12] at H; exact H
      have Nbq12 := Am hbq12
      clear hbq12
      by_cases c13 : bq12 = true
      ·
       subst c13
       have H1 : ((rules_For.f k t386 t389 t392 t395 3 2).bind fun t425 => (if t425 = true then ((rules_For.f k t386 t389 t392 t395 0 2).bind fun t426 => (if t426 = true then (none) else ((rules_Check.f k t402 t405 t408 y418).bind fun bt427 => (some (bt427.1 == 3 && (bt427.2.1 == 1 && (bt427.2.2.1 == 7 && (bt427.2.2.2 == 0)))))))) else (none))) = some r := by rw [if_pos rfl] at H; exact H
       clear H
       have H := H1
       clear H1
       obtain ⟨t425, A140, H⟩ := Option.bind_eq_some_iff.mp H
       try dsimp only at H
       have A14 := Am A140
       clear A140
       by_cases c15 : t425 = true
       ·
        subst c15
        have H1 : ((rules_For.f k t386 t389 t392 t395 0 2).bind fun t426 => (if t426 = true then (none) else ((rules_Check.f k t402 t405 t408 y418).bind fun bt427 => (some (bt427.1 == 3 && (bt427.2.1 == 1 && (bt427.2.2.1 == 7 && (bt427.2.2.2 == 0)))))))) = some r := by rw [if_pos rfl] at H; exact H
        clear H
        have H := H1
        clear H1
        obtain ⟨t426, A160, H⟩ := Option.bind_eq_some_iff.mp H
        replace H : (if t426 = true then (none) else ((rules_Check.f k t402 t405 t408 y418).bind fun bt427 => (some (bt427.1 == 3 && (bt427.2.1 == 1 && (bt427.2.2.1 == 7 && (bt427.2.2.2 == 0))))))) = some r := H
        have A16 := Am A160
        clear A160
        by_cases c17 : t426 = true
        ·
         subst c17
         have H1 : (none) = some r := by rw [if_pos rfl] at H; exact H
         clear H
         have H := H1
         clear H1
         exact absurd H (by simp)
        ·
         replace c17 := Bool.eq_false_iff.mpr c17
         subst c17
         have H1 : ((rules_Check.f k t402 t405 t408 y418).bind fun bt427 => (some (bt427.1 == 3 && (bt427.2.1 == 1 && (bt427.2.2.1 == 7 && (bt427.2.2.2 == 0)))))) = some r := by rw [if_neg (show ¬ (false = true) by decide)] at H; exact H
         clear H
         have H := H1
         clear H1
         obtain ⟨⟨t427, t428, t429, t430⟩, A180, H⟩ := Option.bind_eq_some_iff.mp H
         replace H : (some (t427 == 3 && (t428 == 1 && (t429 == 7 && (t430 == 0))))) = some r := H
         have A18 := Am A180
         clear A180
         obtain rfl := Option.some.inj H
         go_enter Try.func9, Try.ntmps9
         go_wp2_with (first | ((with_reducible refine gate_callee (f := 27) rfl ?_); refine goesL_ (some 4) rfl rfl Try.func27 (by kernel_rfl) rfl #[] rfl aq ?_; (with_reducible refine (surmiselaw05_Sample.calls  t386 t389 t392 t395 _ A1.out).mono ?_); rintro e w19 ⟨v387, v390, v393, v396, rfl, ho0, ho1, ho2, ho3, hb⟩; refine ⟨_, rfl, ?_⟩; have n0_ := Am (Kd.R_lower (Kd.R_mono (ok' := fun k_ => some k_ ≠ (v390 : Value).ownBlock) ho0 (fun _ hk_ => hk_.2)) (below_size (bl))); have n1_ := Am (Kd.R_lower (Kd.R_mono (ok' := fun k_ => some k_ ≠ (v387 : Value).ownBlock) ho1 (fun _ hk_ => hk_.2)) (below_size (bl))); have n2_ := Am (Kd.R_lower (Kd.R_mono (ok' := fun k_ => True) ho2 (fun _ hk_ => trivial)) (below_size (bl))); have n3_ := Am (Kd.N_lower (Kd.N_mono (ok' := fun k_ => some k_ ≠ (v387 : Value).ownBlock ∧ some k_ ≠ (v390 : Value).ownBlock ∧ some k_ ≠ (v393 : Value).ownBlock) ho3 (fun k_ hk_ => ⟨hk_.2.1, hk_.2.2.1, hk_.2.2.2⟩)) (below_size (bl))); have n4_ := Am (below_step (bl) hb); clear HB; have HO388 := n0_; have HO391 := n1_; have HO394 := n2_; have HO397 := n3_; have HB := n4_; clear n0_ n1_ n2_ n3_ n4_; (try clear hb); (try clear hb2); (try clear hk); (try clear hi); (try clear ho0); (try clear ho1); (try clear ho2); (try clear ho3)) | ((with_reducible refine gate_dst (N := 1) rfl ?_); (try (refine gate_guard (by rfl) ?_; dsimp only)); refine bxe (N := 1) (cs := #[.slice none 0 0, .slice none 0 0, .slice none 0 0, .slice none 0 0]) (t := 26) ?_; intro gb398 hg w20 hbox hb; have n0_ := Am (Kd.R_below (kR HO388) hb); have n1_ := Am (Kd.R_below (kR HO391) hb); have n2_ := Am (Kd.R_below (kR HO394) hb); have n3_ := Am (Kd.N_below (Kd.N_elderB (by (with_reducible repeat (first | apply Kd.N_alloc | apply Kd.N_drewN | apply Kd.N_drew)); exact HO397.out) gb398 (Nat.le_of_eq hg.symm)) hb); have n4_ := Am (below_step (bl) hb); have n5_ := Am (hbox); have n6_ := Am ((gE hg : w.heap.size ≤ gb398)); have n7_ := Am ((gE hg : w.heap.size ≤ gb398)); clear HO388; clear HO391; clear HO394; clear HO397; clear HB; have HO388 := n0_; have HO391 := n1_; have HO394 := n2_; have HO397 := n3_; have HB := n4_; have BK398 := n5_; have GW398 := n6_; have GE398 := n7_; clear n0_ n1_ n2_ n3_ n4_ n5_ n6_ n7_; clear hb hbox hg; obtain ⟨Ao21, co21, eo21⟩ := Kd.R_slice HO388.out; subst eo21; have hcz22_0 := cz0 BK398.out; have hcz22_1 := cz1 BK398.out; have hcz22_2 := cz2 BK398.out; have hcz22_3 := cz3 BK398.out; have hfz22_0 := fz BK398 0; have hfz22_1 := fz BK398 1; have hfz22_2 := fz BK398 2; have hfz22_3 := fz BK398 3; obtain ⟨Ao23, co23, eo23⟩ := Kd.R_slice HO391.out; subst eo23; obtain ⟨Ao24, co24, eo24⟩ := Kd.R_slice HO394.out; subst eo24; obtain ⟨Ao25, co25, eo25⟩ := Kd.N_slice HO397.out; subst eo25) | ((with_reducible refine gate_callee (f := 16) rfl ?_); refine goesL_ (some 6) rfl rfl Try.func16 (by kernel_rfl) rfl #[.agg #[.slice Ao21 t386.length co21, .slice Ao23 t389.length co23, .slice Ao24 t392.length co24, .slice Ao25 t395.length co25]] rfl aq ?_; (with_reducible refine (rules_Reach.calls k _ _ t386 _ _ t389 _ _ t392 _ _ t395 t399 _ ?side1 ?side2 ?side3 ?side4 ?side5 ?side6 ?side7 ?side8 A2.out).mono ?_); (case side1 => refine (Kd.R_reads' (e := 9) (base := w.heap.size) (ok := fun k_ => some k_ ≠ (.slice Ao23 t389.length co23 : Value).ownBlock) (n := t386.length) (c := co21) ?_).2.2; exact (by (with_reducible repeat (first | apply Kd.R_alloc | apply Kd.R_drewN | apply Kd.R_drew)); exact (Kd.R_mono (Kd.R_far (p := ⟨gb398, 3, none⟩) (Kd.R_far (p := ⟨gb398, 2, none⟩) (Kd.R_far (p := ⟨gb398, 1, none⟩) (Kd.R_far (p := ⟨gb398, 0, none⟩) (Kd.R_types HO388.out BK398.out (by decide)) (fun _ hk => hk.2) (.slice Ao21 t386.length co21)) (fun _ hk => hk.2) (.slice Ao23 t389.length co23)) (fun _ hk => hk.2) (.slice Ao24 t392.length co24)) (fun _ hk => hk.2) (.slice Ao25 t395.length co25)) (fun _ h_ => h_.1)))); (case side2 => exact (Kd.R_reads' HO388.out).2.1); (case side3 => refine (Kd.R_reads' (e := 9) (base := w.heap.size) (ok := fun k_ => some k_ ≠ (.slice Ao21 t386.length co21 : Value).ownBlock) (n := t389.length) (c := co23) ?_).2.2; exact (by (with_reducible repeat (first | apply Kd.R_alloc | apply Kd.R_drewN | apply Kd.R_drew)); exact (Kd.R_mono (Kd.R_far (p := ⟨gb398, 3, none⟩) (Kd.R_far (p := ⟨gb398, 2, none⟩) (Kd.R_far (p := ⟨gb398, 1, none⟩) (Kd.R_far (p := ⟨gb398, 0, none⟩) (Kd.R_types HO391.out BK398.out (by decide)) (fun _ hk => hk.2) (.slice Ao21 t386.length co21)) (fun _ hk => hk.2) (.slice Ao23 t389.length co23)) (fun _ hk => hk.2) (.slice Ao24 t392.length co24)) (fun _ hk => hk.2) (.slice Ao25 t395.length co25)) (fun _ h_ => h_.1)))); (case side4 => exact (Kd.R_reads' HO391.out).2.1); (case side5 => refine (Kd.R_reads' (e := 3) (base := w.heap.size) (ok := fun k_ => True) (n := t392.length) (c := co24) ?_).2.2; exact (by (with_reducible repeat (first | apply Kd.R_alloc | apply Kd.R_drewN | apply Kd.R_drew)); exact (Kd.R_mono (Kd.R_far (p := ⟨gb398, 3, none⟩) (Kd.R_far (p := ⟨gb398, 2, none⟩) (Kd.R_far (p := ⟨gb398, 1, none⟩) (Kd.R_far (p := ⟨gb398, 0, none⟩) (Kd.R_types HO394.out BK398.out (by decide)) (fun _ hk => hk.2) (.slice Ao21 t386.length co21)) (fun _ hk => hk.2) (.slice Ao23 t389.length co23)) (fun _ hk => hk.2) (.slice Ao24 t392.length co24)) (fun _ hk => hk.2) (.slice Ao25 t395.length co25)) (fun _ h_ => h_.1)))); (case side6 => exact (Kd.R_reads' HO394.out).2.1); (case side7 => refine (Kd.N_reads' (e := 38) (base := w.heap.size) (ok := fun k_ => ((some k_ ≠ (.slice Ao21 t386.length co21 : Value).ownBlock ∧ (some k_ ≠ (.slice Ao23 t389.length co23 : Value).ownBlock ∧ some k_ ≠ (.slice Ao24 t392.length co24 : Value).ownBlock)) ∧ k_ ≠ gb398)) (n := t395.length) (c := co25) ?_).2.2; exact (by (with_reducible repeat (first | apply Kd.N_alloc | apply Kd.N_drewN | apply Kd.N_drew)); exact (Kd.N_mono (Kd.N_far (p := ⟨gb398, 3, none⟩) (Kd.N_far (p := ⟨gb398, 2, none⟩) (Kd.N_far (p := ⟨gb398, 1, none⟩) (Kd.N_far (p := ⟨gb398, 0, none⟩) (Kd.N_mono HO397.out (fun k_ hk => (⟨hk, hk.2⟩ : _ ∧ k_ ≠ gb398))) (fun _ hk => hk.2) (.slice Ao21 t386.length co21)) (fun _ hk => hk.2) (.slice Ao23 t389.length co23)) (fun _ hk => hk.2) (.slice Ao24 t392.length co24)) (fun _ hk => hk.2) (.slice Ao25 t395.length co25)) (fun _ h_ => h_.1)))); (case side8 => exact (Kd.N_reads' HO397.out).2.1); rintro e w26 ⟨v400, rfl, ho0, hb⟩; refine ⟨_, rfl, ?_⟩; have n0_ := Am (Kd.R_below (by (with_reducible repeat (first | apply Kd.R_alloc | apply Kd.R_drewN | apply Kd.R_drew)); exact (Kd.R_mono (Kd.R_far (p := ⟨gb398, 3, none⟩) (Kd.R_far (p := ⟨gb398, 2, none⟩) (Kd.R_far (p := ⟨gb398, 1, none⟩) (Kd.R_far (p := ⟨gb398, 0, none⟩) (Kd.R_types HO388.out BK398.out (by decide)) (fun _ hk => hk.2) (.slice Ao21 t386.length co21)) (fun _ hk => hk.2) (.slice Ao23 t389.length co23)) (fun _ hk => hk.2) (.slice Ao24 t392.length co24)) (fun _ hk => hk.2) (.slice Ao25 t395.length co25)) (fun _ h_ => h_.1))) hb); have n1_ := Am (Kd.R_below (by (with_reducible repeat (first | apply Kd.R_alloc | apply Kd.R_drewN | apply Kd.R_drew)); exact (Kd.R_mono (Kd.R_far (p := ⟨gb398, 3, none⟩) (Kd.R_far (p := ⟨gb398, 2, none⟩) (Kd.R_far (p := ⟨gb398, 1, none⟩) (Kd.R_far (p := ⟨gb398, 0, none⟩) (Kd.R_types HO391.out BK398.out (by decide)) (fun _ hk => hk.2) (.slice Ao21 t386.length co21)) (fun _ hk => hk.2) (.slice Ao23 t389.length co23)) (fun _ hk => hk.2) (.slice Ao24 t392.length co24)) (fun _ hk => hk.2) (.slice Ao25 t395.length co25)) (fun _ h_ => h_.1))) hb); have n2_ := Am (Kd.R_below (by (with_reducible repeat (first | apply Kd.R_alloc | apply Kd.R_drewN | apply Kd.R_drew)); exact (Kd.R_mono (Kd.R_far (p := ⟨gb398, 3, none⟩) (Kd.R_far (p := ⟨gb398, 2, none⟩) (Kd.R_far (p := ⟨gb398, 1, none⟩) (Kd.R_far (p := ⟨gb398, 0, none⟩) (Kd.R_types HO394.out BK398.out (by decide)) (fun _ hk => hk.2) (.slice Ao21 t386.length co21)) (fun _ hk => hk.2) (.slice Ao23 t389.length co23)) (fun _ hk => hk.2) (.slice Ao24 t392.length co24)) (fun _ hk => hk.2) (.slice Ao25 t395.length co25)) (fun _ h_ => h_.1))) hb); have n3_ := Am (Kd.N_elder' (by (with_reducible repeat (first | apply Kd.N_alloc | apply Kd.N_drewN | apply Kd.N_drew)); exact (Kd.N_mono (Kd.N_far (p := ⟨gb398, 3, none⟩) (Kd.N_far (p := ⟨gb398, 2, none⟩) (Kd.N_far (p := ⟨gb398, 1, none⟩) (Kd.N_far (p := ⟨gb398, 0, none⟩) (Kd.N_mono HO397.out (fun k_ hk => (⟨hk, hk.2⟩ : _ ∧ k_ ≠ gb398))) (fun _ hk => hk.2) (.slice Ao21 t386.length co21)) (fun _ hk => hk.2) (.slice Ao23 t389.length co23)) (fun _ hk => hk.2) (.slice Ao24 t392.length co24)) (fun _ hk => hk.2) (.slice Ao25 t395.length co25)) (fun _ h_ => h_.1))) (Kd.R_base ho0) hb); have n4_ := Am (Kd.R_lower ho0 (below_size (bs))); have n5_ := Am (blk_below (g := gb398) (o := .cells #[.slice Ao21 t386.length co21, .slice Ao23 t389.length co23, .slice Ao24 t392.length co24, .slice Ao25 t395.length co25] 26 (0, 0)) (by (with_reducible repeat (first | refine blk_drewN ?_ _ | refine blk_drew ?_ | refine blk_alloc ?_ _)); refine blk_put (cs := #[.slice Ao21 t386.length co21, .slice Ao23 t389.length co23, .slice Ao24 t392.length co24, .slice none 0 0]) ?_ 3 _ rfl; (with_reducible repeat (first | refine blk_drewN ?_ _ | refine blk_drew ?_ | refine blk_alloc ?_ _)); refine blk_put (cs := #[.slice Ao21 t386.length co21, .slice Ao23 t389.length co23, .slice none 0 0, .slice none 0 0]) ?_ 2 _ rfl; (with_reducible repeat (first | refine blk_drewN ?_ _ | refine blk_drew ?_ | refine blk_alloc ?_ _)); refine blk_put (cs := #[.slice Ao21 t386.length co21, .slice none 0 0, .slice none 0 0, .slice none 0 0]) ?_ 1 _ rfl; (with_reducible repeat (first | refine blk_drewN ?_ _ | refine blk_drew ?_ | refine blk_alloc ?_ _)); refine blk_put (cs := #[.slice none 0 0, .slice none 0 0, .slice none 0 0, .slice none 0 0]) ?_ 0 _ rfl; (with_reducible repeat (first | refine blk_drewN ?_ _ | refine blk_drew ?_ | refine blk_alloc ?_ _)); exact BK398.out) hb); have n6_ := Am (below_step (bs) hb); clear HO388; clear HO391; clear HO394; clear HO397; clear BK398; clear HB; have HO388 := n0_; have HO391 := n1_; have HO394 := n2_; have HO397 := n3_; have HO401 := n4_; have BK398 := n5_; have HB := n6_; clear n0_ n1_ n2_ n3_ n4_ n5_ n6_; (try clear hb); (try clear hb2); (try clear hk); (try clear hi); (try clear ho0)) | ((with_reducible refine gate_callee (f := 27) rfl ?_); refine goesL_ (some 7) rfl rfl Try.func27 (by kernel_rfl) rfl #[] rfl aq ?_; (with_reducible refine (surmiselaw05_Sample.calls  t402 t405 t408 t411 _ A3.out).mono ?_); rintro e w27 ⟨v403, v406, v409, v412, rfl, ho0, ho1, ho2, ho3, hb⟩; refine ⟨_, rfl, ?_⟩; have n0_ := Am (Kd.R_mono (Kd.R_told (Kd.R_told (Kd.R_old (kR HO388) hb) (Kd.R_base ho0)) (Kd.R_base ho1)) (fun _ h_ => h_.1)); have n1_ := Am (Kd.R_mono (Kd.R_told (Kd.R_told (Kd.R_old (kR HO391) hb) (Kd.R_base ho0)) (Kd.R_base ho1)) (fun _ h_ => h_.1)); have n2_ := Am (Kd.R_elder' (kR HO394) (Kd.R_base ho2) hb); have n3_ := Am (Kd.N_mono (Kd.N_told (Kd.N_told (Kd.N_told (Kd.N_told (Kd.N_old (by (with_reducible repeat (first | apply Kd.N_alloc | apply Kd.N_drewN | apply Kd.N_drew)); exact HO397.out) hb) (Kd.R_base ho0)) (Kd.R_base ho1)) (Kd.R_base ho2)) (Kd.N_base ho3)) (fun _ h_ => h_.1)); have n4_ := Am (Kd.R_below (kR HO401) hb); have n5_ := Am (Kd.R_lower (Kd.R_new' (Kd.R_new' (Kd.R_mono (ok' := fun k_ => some k_ ≠ (v406 : Value).ownBlock) ho0 (fun _ hk_ => hk_.2)) (Kd.R_lt (kR HO388))) (Kd.R_lt (kR HO391))) (below_size (bs))); have n6_ := Am (Kd.R_lower (Kd.R_new' (Kd.R_new' (Kd.R_mono (ok' := fun k_ => some k_ ≠ (v403 : Value).ownBlock) ho1 (fun _ hk_ => hk_.2)) (Kd.R_lt (kR HO388))) (Kd.R_lt (kR HO391))) (below_size (bs))); have n7_ := Am (Kd.R_lower (Kd.R_new' (Kd.R_mono (ok' := fun k_ => True) ho2 (fun _ hk_ => trivial)) (Kd.R_lt (kR HO394))) (below_size (bs))); have n8_ := Am (Kd.N_lower (Kd.N_mono (ok' := fun k_ => some k_ ≠ (v403 : Value).ownBlock ∧ some k_ ≠ (v406 : Value).ownBlock ∧ some k_ ≠ (v409 : Value).ownBlock ∧ some k_ ≠ (.slice Ao21 t386.length co21 : Value).ownBlock ∧ some k_ ≠ (.slice Ao23 t389.length co23 : Value).ownBlock ∧ some k_ ≠ (.slice Ao24 t392.length co24 : Value).ownBlock ∧ some k_ ≠ (.slice Ao25 t395.length co25 : Value).ownBlock ∧ some k_ ≠ (v400 : Value).ownBlock ∧ k_ ≠ gb398) ho3 (fun k_ hk_ => ⟨hk_.2.1, hk_.2.2.1, hk_.2.2.2, (Kd.fresh' (Kd.R_lt (kR HO388)) k_ hk_.1), (Kd.fresh' (Kd.R_lt (kR HO391)) k_ hk_.1), (Kd.fresh' (Kd.R_lt (kR HO394)) k_ hk_.1), (Kd.fresh' (Kd.N_lt (by (with_reducible repeat (first | apply Kd.N_alloc | apply Kd.N_drewN | apply Kd.N_drew)); exact HO397.out)) k_ hk_.1), (Kd.fresh' (Kd.R_lt (kR HO401)) k_ hk_.1), (Kd.freshB (g := gb398) (o := .cells #[.slice Ao21 t386.length co21, .slice Ao23 t389.length co23, .slice Ao24 t392.length co24, .slice Ao25 t395.length co25] 26 (0, 0)) (kB BK398) k_ hk_.1)⟩)) (below_size (bs))); have n9_ := Am (blk_below (kB BK398) hb); have n10_ := Am (below_step (bs) hb); clear HO388; clear HO391; clear HO394; clear HO397; clear HO401; clear BK398; clear HB; have HO388 := n0_; have HO391 := n1_; have HO394 := n2_; have HO397 := n3_; have HO401 := n4_; have HO404 := n5_; have HO407 := n6_; have HO410 := n7_; have HO413 := n8_; have BK398 := n9_; have HB := n10_; clear n0_ n1_ n2_ n3_ n4_ n5_ n6_ n7_ n8_ n9_ n10_; (try clear hb); (try clear hb2); (try clear hk); (try clear hi); (try clear ho0); (try clear ho1); (try clear ho2); (try clear ho3)) | ((with_reducible refine gate_dst (N := 3) rfl ?_); (try (refine gate_guard (by rfl) ?_; dsimp only)); refine bxe (N := 3) (cs := #[.slice none 0 0, .slice none 0 0, .slice none 0 0, .slice none 0 0]) (t := 26) ?_; intro gb414 hg w28 hbox hb; have n0_ := Am (Kd.R_below (kR HO388) hb); have n1_ := Am (Kd.R_below (kR HO391) hb); have n2_ := Am (Kd.R_below (kR HO394) hb); have n3_ := Am (Kd.N_below (Kd.N_elderB (by (with_reducible repeat (first | apply Kd.N_alloc | apply Kd.N_drewN | apply Kd.N_drew)); exact HO397.out) gb414 (Nat.le_of_eq hg.symm)) hb); have n4_ := Am (Kd.R_below (kR HO401) hb); have n5_ := Am (Kd.R_below (kR HO404) hb); have n6_ := Am (Kd.R_below (kR HO407) hb); have n7_ := Am (Kd.R_below (kR HO410) hb); have n8_ := Am (Kd.N_below (Kd.N_elderB (by (with_reducible repeat (first | apply Kd.N_alloc | apply Kd.N_drewN | apply Kd.N_drew)); exact HO413.out) gb414 (Nat.le_of_eq hg.symm)) hb); have n9_ := Am (blk_below (kB BK398) hb); have n10_ := Am (below_step (bs) hb); have n11_ := Am (hbox); have n12_ := Am ((gE hg : w.heap.size ≤ gb414)); have n13_ := Am ((gE hg : w.heap.size ≤ gb414)); have n14_ := Am (nL hg BK398); have n15_ := Am (nG hg BK398); clear HO388; clear HO391; clear HO394; clear HO397; clear HO401; clear HO404; clear HO407; clear HO410; clear HO413; clear BK398; clear HB; have HO388 := n0_; have HO391 := n1_; have HO394 := n2_; have HO397 := n3_; have HO401 := n4_; have HO404 := n5_; have HO407 := n6_; have HO410 := n7_; have HO413 := n8_; have BK398 := n9_; have HB := n10_; have BK414 := n11_; have GW414 := n12_; have GE414 := n13_; have NB398_414 := n14_; have NB414_398 := n15_; clear n0_ n1_ n2_ n3_ n4_ n5_ n6_ n7_ n8_ n9_ n10_ n11_ n12_ n13_ n14_ n15_; clear hb hbox hg; obtain ⟨Ao29, co29, eo29⟩ := Kd.R_slice HO404.out; subst eo29; have hnb30 := NB414_398.out; have hnc30 := NB398_414.out; have hcz31_0 := cz0 BK414.out; have hcz31_1 := cz1 BK414.out; have hcz31_2 := cz2 BK414.out; have hcz31_3 := cz3 BK414.out; have hfz31_0 := fz BK414 0; have hfz31_1 := fz BK414 1; have hfz31_2 := fz BK414 2; have hfz31_3 := fz BK414 3; obtain ⟨Ao32, co32, eo32⟩ := Kd.R_slice HO407.out; subst eo32; obtain ⟨Ao33, co33, eo33⟩ := Kd.R_slice HO410.out; subst eo33; obtain ⟨Ao34, co34, eo34⟩ := Kd.N_slice HO413.out; subst eo34) | ((with_reducible refine gate_dst (N := 10) rfl ?_); (try (refine gate_guard (by rfl) ?_; dsimp only)); refine Kd.R_lit (Kd.int .i64) _ 3 ?hg (N := 10) ?hd (xs := ([3] : List Int)) (inner := [.int .i64 3]) (ok := fun _ => True) (okp := fun _ => True) ?hr ?hp (fun _ hk => hk) trivial (Below.refl _ _) (Nat.le_refl _) (by simp) ?_; (case hd => rfl); (case hg => rfl); (case hr => first | (go_simp; done) | (go_simp; rfl)); (case hp => exact (Reps.one (show Kd.M (Kd.int .i64) _ _ _ 3 [.int .i64 3] from rfl) (Reps.none _ _))); intro v416 w35 ho36 hb hg_ hnew_; clear hg_ hnew_; (first | rw [← Ny415.out] at ho36 | (simp only [Int.reduceToNat] at ho36; rw [← Ny415.out] at ho36)); have n0_ := Am (Kd.R_below (by (with_reducible repeat (first | apply Kd.R_alloc | apply Kd.R_drewN | apply Kd.R_drew)); exact (Kd.R_mono (Kd.R_far (p := ⟨gb414, 3, none⟩) (Kd.R_far (p := ⟨gb414, 2, none⟩) (Kd.R_far (p := ⟨gb414, 1, none⟩) (Kd.R_far (p := ⟨gb414, 0, none⟩) (Kd.R_types HO388.out BK414.out (by decide)) (fun _ hk => hk.2) (.slice Ao29 t402.length co29)) (fun _ hk => hk.2) (.slice Ao32 t405.length co32)) (fun _ hk => hk.2) (.slice Ao33 t408.length co33)) (fun _ hk => hk.2) (.slice Ao34 t411.length co34)) (fun _ h_ => h_.1))) hb); have n1_ := Am (Kd.R_below (by (with_reducible repeat (first | apply Kd.R_alloc | apply Kd.R_drewN | apply Kd.R_drew)); exact (Kd.R_mono (Kd.R_far (p := ⟨gb414, 3, none⟩) (Kd.R_far (p := ⟨gb414, 2, none⟩) (Kd.R_far (p := ⟨gb414, 1, none⟩) (Kd.R_far (p := ⟨gb414, 0, none⟩) (Kd.R_types HO391.out BK414.out (by decide)) (fun _ hk => hk.2) (.slice Ao29 t402.length co29)) (fun _ hk => hk.2) (.slice Ao32 t405.length co32)) (fun _ hk => hk.2) (.slice Ao33 t408.length co33)) (fun _ hk => hk.2) (.slice Ao34 t411.length co34)) (fun _ h_ => h_.1))) hb); have n2_ := Am (Kd.R_elder' (by (with_reducible repeat (first | apply Kd.R_alloc | apply Kd.R_drewN | apply Kd.R_drew)); exact (Kd.R_mono (Kd.R_far (p := ⟨gb414, 3, none⟩) (Kd.R_far (p := ⟨gb414, 2, none⟩) (Kd.R_far (p := ⟨gb414, 1, none⟩) (Kd.R_far (p := ⟨gb414, 0, none⟩) (Kd.R_types HO394.out BK414.out (by decide)) (fun _ hk => hk.2) (.slice Ao29 t402.length co29)) (fun _ hk => hk.2) (.slice Ao32 t405.length co32)) (fun _ hk => hk.2) (.slice Ao33 t408.length co33)) (fun _ hk => hk.2) (.slice Ao34 t411.length co34)) (fun _ h_ => h_.1))) (Kd.R_base ho36) hb); have n3_ := Am (Kd.N_elder' (by (with_reducible repeat (first | apply Kd.N_alloc | apply Kd.N_drewN | apply Kd.N_drew)); exact (Kd.N_mono (Kd.N_far (p := ⟨gb414, 3, none⟩) (Kd.N_far (p := ⟨gb414, 2, none⟩) (Kd.N_far (p := ⟨gb414, 1, none⟩) (Kd.N_far (p := ⟨gb414, 0, none⟩) (Kd.N_mono HO397.out (fun k_ hk => (⟨hk, hk.2⟩ : _ ∧ k_ ≠ gb414))) (fun _ hk => hk.2) (.slice Ao29 t402.length co29)) (fun _ hk => hk.2) (.slice Ao32 t405.length co32)) (fun _ hk => hk.2) (.slice Ao33 t408.length co33)) (fun _ hk => hk.2) (.slice Ao34 t411.length co34)) (fun _ h_ => h_.1))) (Kd.R_base ho36) hb); have n4_ := Am (Kd.R_below (by (with_reducible repeat (first | apply Kd.R_alloc | apply Kd.R_drewN | apply Kd.R_drew)); exact (Kd.R_mono (Kd.R_far (p := ⟨gb414, 3, none⟩) (Kd.R_far (p := ⟨gb414, 2, none⟩) (Kd.R_far (p := ⟨gb414, 1, none⟩) (Kd.R_far (p := ⟨gb414, 0, none⟩) (Kd.R_types HO401.out BK414.out (by decide)) (fun _ hk => hk.2) (.slice Ao29 t402.length co29)) (fun _ hk => hk.2) (.slice Ao32 t405.length co32)) (fun _ hk => hk.2) (.slice Ao33 t408.length co33)) (fun _ hk => hk.2) (.slice Ao34 t411.length co34)) (fun _ h_ => h_.1))) hb); have n5_ := Am (Kd.R_below (by (with_reducible repeat (first | apply Kd.R_alloc | apply Kd.R_drewN | apply Kd.R_drew)); exact (Kd.R_mono (Kd.R_far (p := ⟨gb414, 3, none⟩) (Kd.R_far (p := ⟨gb414, 2, none⟩) (Kd.R_far (p := ⟨gb414, 1, none⟩) (Kd.R_far (p := ⟨gb414, 0, none⟩) (Kd.R_types HO404.out BK414.out (by decide)) (fun _ hk => hk.2) (.slice Ao29 t402.length co29)) (fun _ hk => hk.2) (.slice Ao32 t405.length co32)) (fun _ hk => hk.2) (.slice Ao33 t408.length co33)) (fun _ hk => hk.2) (.slice Ao34 t411.length co34)) (fun _ h_ => h_.1))) hb); have n6_ := Am (Kd.R_below (by (with_reducible repeat (first | apply Kd.R_alloc | apply Kd.R_drewN | apply Kd.R_drew)); exact (Kd.R_mono (Kd.R_far (p := ⟨gb414, 3, none⟩) (Kd.R_far (p := ⟨gb414, 2, none⟩) (Kd.R_far (p := ⟨gb414, 1, none⟩) (Kd.R_far (p := ⟨gb414, 0, none⟩) (Kd.R_types HO407.out BK414.out (by decide)) (fun _ hk => hk.2) (.slice Ao29 t402.length co29)) (fun _ hk => hk.2) (.slice Ao32 t405.length co32)) (fun _ hk => hk.2) (.slice Ao33 t408.length co33)) (fun _ hk => hk.2) (.slice Ao34 t411.length co34)) (fun _ h_ => h_.1))) hb); have n7_ := Am (Kd.R_elder' (by (with_reducible repeat (first | apply Kd.R_alloc | apply Kd.R_drewN | apply Kd.R_drew)); exact (Kd.R_mono (Kd.R_far (p := ⟨gb414, 3, none⟩) (Kd.R_far (p := ⟨gb414, 2, none⟩) (Kd.R_far (p := ⟨gb414, 1, none⟩) (Kd.R_far (p := ⟨gb414, 0, none⟩) (Kd.R_types HO410.out BK414.out (by decide)) (fun _ hk => hk.2) (.slice Ao29 t402.length co29)) (fun _ hk => hk.2) (.slice Ao32 t405.length co32)) (fun _ hk => hk.2) (.slice Ao33 t408.length co33)) (fun _ hk => hk.2) (.slice Ao34 t411.length co34)) (fun _ h_ => h_.1))) (Kd.R_base ho36) hb); have n8_ := Am (Kd.N_elder' (by (with_reducible repeat (first | apply Kd.N_alloc | apply Kd.N_drewN | apply Kd.N_drew)); exact (Kd.N_mono (Kd.N_far (p := ⟨gb414, 3, none⟩) (Kd.N_far (p := ⟨gb414, 2, none⟩) (Kd.N_far (p := ⟨gb414, 1, none⟩) (Kd.N_far (p := ⟨gb414, 0, none⟩) (Kd.N_mono HO413.out (fun k_ hk => (⟨hk, hk.2⟩ : _ ∧ k_ ≠ gb414))) (fun _ hk => hk.2) (.slice Ao29 t402.length co29)) (fun _ hk => hk.2) (.slice Ao32 t405.length co32)) (fun _ hk => hk.2) (.slice Ao33 t408.length co33)) (fun _ hk => hk.2) (.slice Ao34 t411.length co34)) (fun _ h_ => h_.1))) (Kd.R_base ho36) hb); have n9_ := Am (Kd.R_lower (Kd.R_new' (Kd.R_new' ho36 (Kd.R_lt (by (with_reducible repeat (first | apply Kd.R_alloc | apply Kd.R_drewN | apply Kd.R_drew)); exact (Kd.R_mono (Kd.R_far (p := ⟨gb414, 3, none⟩) (Kd.R_far (p := ⟨gb414, 2, none⟩) (Kd.R_far (p := ⟨gb414, 1, none⟩) (Kd.R_far (p := ⟨gb414, 0, none⟩) (Kd.R_types HO394.out BK414.out (by decide)) (fun _ hk => hk.2) (.slice Ao29 t402.length co29)) (fun _ hk => hk.2) (.slice Ao32 t405.length co32)) (fun _ hk => hk.2) (.slice Ao33 t408.length co33)) (fun _ hk => hk.2) (.slice Ao34 t411.length co34)) (fun _ h_ => h_.1))))) (Kd.R_lt (by (with_reducible repeat (first | apply Kd.R_alloc | apply Kd.R_drewN | apply Kd.R_drew)); exact (Kd.R_mono (Kd.R_far (p := ⟨gb414, 3, none⟩) (Kd.R_far (p := ⟨gb414, 2, none⟩) (Kd.R_far (p := ⟨gb414, 1, none⟩) (Kd.R_far (p := ⟨gb414, 0, none⟩) (Kd.R_types HO410.out BK414.out (by decide)) (fun _ hk => hk.2) (.slice Ao29 t402.length co29)) (fun _ hk => hk.2) (.slice Ao32 t405.length co32)) (fun _ hk => hk.2) (.slice Ao33 t408.length co33)) (fun _ hk => hk.2) (.slice Ao34 t411.length co34)) (fun _ h_ => h_.1))))) (below_size (bs))); have n10_ := Am (blk_below (kZ BK398) hb); have n11_ := Am (blk_below (g := gb414) (o := .cells #[.slice Ao29 t402.length co29, .slice Ao32 t405.length co32, .slice Ao33 t408.length co33, .slice Ao34 t411.length co34] 26 (0, 0)) (by (with_reducible repeat (first | refine blk_drewN ?_ _ | refine blk_drew ?_ | refine blk_alloc ?_ _)); refine blk_put (cs := #[.slice Ao29 t402.length co29, .slice Ao32 t405.length co32, .slice Ao33 t408.length co33, .slice none 0 0]) ?_ 3 _ rfl; (with_reducible repeat (first | refine blk_drewN ?_ _ | refine blk_drew ?_ | refine blk_alloc ?_ _)); refine blk_put (cs := #[.slice Ao29 t402.length co29, .slice Ao32 t405.length co32, .slice none 0 0, .slice none 0 0]) ?_ 2 _ rfl; (with_reducible repeat (first | refine blk_drewN ?_ _ | refine blk_drew ?_ | refine blk_alloc ?_ _)); refine blk_put (cs := #[.slice Ao29 t402.length co29, .slice none 0 0, .slice none 0 0, .slice none 0 0]) ?_ 1 _ rfl; (with_reducible repeat (first | refine blk_drewN ?_ _ | refine blk_drew ?_ | refine blk_alloc ?_ _)); refine blk_put (cs := #[.slice none 0 0, .slice none 0 0, .slice none 0 0, .slice none 0 0]) ?_ 0 _ rfl; (with_reducible repeat (first | refine blk_drewN ?_ _ | refine blk_drew ?_ | refine blk_alloc ?_ _)); exact BK414.out) hb); have n12_ := Am (below_step (bs) hb); clear HO388; clear HO391; clear HO394; clear HO397; clear HO401; clear HO404; clear HO407; clear HO410; clear HO413; clear BK398; clear BK414; clear HB; have HO388 := n0_; have HO391 := n1_; have HO394 := n2_; have HO397 := n3_; have HO401 := n4_; have HO404 := n5_; have HO407 := n6_; have HO410 := n7_; have HO413 := n8_; have HO417 := n9_; have BK398 := n10_; have BK414 := n11_; have HB := n12_; clear n0_ n1_ n2_ n3_ n4_ n5_ n6_ n7_ n8_ n9_ n10_ n11_ n12_; clear hb ho36; have p5 : 0 ≤ (1 : Int) := (by omega); have q5 : (1 : Int) < ((t411.length : Int) : Int) := of_decide_eq_true az; have qi5 : (1 < t411.length) = True := eq_true (by omega); obtain ⟨go5, co5, eo5, gb5, gl5, cl5, HG5⟩ := Kd.N_form HO413.out (by omega); (first | cases eo5 | (injection eo5 with ea_ en_ ec_; (first | subst ea_ | (injection ea_ with ea_; subst ea_)); subst ec_; clear en_)); have GB5 := Am gb5; have GG5 := Am HG5; clear gb5 gl5 HG5; obtain ⟨ce5, hcl5, hM5, hcc5, hfr5⟩ := Kd.N_elem HO413.out z38 (1 : Int) p5 q5; obtain ⟨ua5_2, uc5_2, ua5_3, uc5_3, ua5_4, uc5_4, rfl, ul5_2, ge5_2, ul5_3, ge5_3, ul5_4, ge5_4⟩ := k38_openF hM5; have hx5_0 : w35.cell? ⟨go5, (1 : Int).toNat * 5, none⟩ = some (.string ((rd_T38 t411 1).f0)) := hcc5 0 _ rfl; have hx5_1 : w35.cell? ⟨go5, (1 : Int).toNat * 5 + 1, none⟩ = some (.int .i64 ((rd_T38 t411 1).f1)) := hcc5 1 _ rfl; have hx5_2 : w35.cell? ⟨go5, (1 : Int).toNat * 5 + 2, none⟩ = some (.slice ua5_2 ((rd_T38 t411 1).f2).length uc5_2) := hcc5 2 _ rfl; have hx5_3 : w35.cell? ⟨go5, (1 : Int).toNat * 5 + 3, none⟩ = some (.slice ua5_3 ((rd_T38 t411 1).f3).length uc5_3) := hcc5 3 _ rfl; have hx5_4 : w35.cell? ⟨go5, (1 : Int).toNat * 5 + 4, none⟩ = some (.slice ua5_4 ((rd_T38 t411 1).f4).length uc5_4) := hcc5 4 _ rfl; have hf5_0 : w35.frozen? ⟨go5, (1 : Int).toNat * 5, none⟩ = false := hfr5 0; have hf5_1 : w35.frozen? ⟨go5, (1 : Int).toNat * 5 + 1, none⟩ = false := hfr5 1; have hf5_2 : w35.frozen? ⟨go5, (1 : Int).toNat * 5 + 2, none⟩ = false := hfr5 2; have hf5_3 : w35.frozen? ⟨go5, (1 : Int).toNat * 5 + 3, none⟩ = false := hfr5 3; have hf5_4 : w35.frozen? ⟨go5, (1 : Int).toNat * 5 + 4, none⟩ = false := hfr5 4; clear hcl5 hcc5 hfr5 hM5; (try rw [show ((1 : Int)).toNat = 1 from rfl] at hx5_0); (try simp only [Nat.reduceMul, Nat.zero_mul, Nat.zero_add, Nat.reduceAdd] at hx5_0); (try rw [show ((1 : Int)).toNat = 1 from rfl] at hf5_0); (try simp only [Nat.reduceMul, Nat.zero_mul, Nat.zero_add, Nat.reduceAdd] at hf5_0); (try rw [show ((1 : Int)).toNat = 1 from rfl] at hx5_1); (try simp only [Nat.reduceMul, Nat.zero_mul, Nat.zero_add, Nat.reduceAdd] at hx5_1); (try rw [show ((1 : Int)).toNat = 1 from rfl] at hf5_1); (try simp only [Nat.reduceMul, Nat.zero_mul, Nat.zero_add, Nat.reduceAdd] at hf5_1); (try rw [show ((1 : Int)).toNat = 1 from rfl] at hx5_2); (try simp only [Nat.reduceMul, Nat.zero_mul, Nat.zero_add, Nat.reduceAdd] at hx5_2); (try rw [show ((1 : Int)).toNat = 1 from rfl] at hf5_2); (try simp only [Nat.reduceMul, Nat.zero_mul, Nat.zero_add, Nat.reduceAdd] at hf5_2); (try rw [show ((1 : Int)).toNat = 1 from rfl] at hx5_3); (try simp only [Nat.reduceMul, Nat.zero_mul, Nat.zero_add, Nat.reduceAdd] at hx5_3); (try rw [show ((1 : Int)).toNat = 1 from rfl] at hf5_3); (try simp only [Nat.reduceMul, Nat.zero_mul, Nat.zero_add, Nat.reduceAdd] at hf5_3); (try rw [show ((1 : Int)).toNat = 1 from rfl] at hx5_4); (try simp only [Nat.reduceMul, Nat.zero_mul, Nat.zero_add, Nat.reduceAdd] at hx5_4); (try rw [show ((1 : Int)).toNat = 1 from rfl] at hf5_4); (try simp only [Nat.reduceMul, Nat.zero_mul, Nat.zero_add, Nat.reduceAdd] at hf5_4); replace p5 := eq_true p5; replace q5 := eq_true q5; have n_ := Am (Kd.N_mono (ok' := (fun k_ => some k_ ≠ (.slice Ao21 t386.length co21 : Value).ownBlock ∧ some k_ ≠ (.slice Ao23 t389.length co23 : Value).ownBlock ∧ some k_ ≠ (.slice Ao24 t392.length co24 : Value).ownBlock ∧ some k_ ≠ (.slice Ao25 t395.length co25 : Value).ownBlock ∧ some k_ ≠ (v400 : Value).ownBlock ∧ some k_ ≠ (.slice Ao29 t402.length co29 : Value).ownBlock ∧ some k_ ≠ (.slice Ao32 t405.length co32 : Value).ownBlock ∧ some k_ ≠ (.slice Ao33 t408.length co33 : Value).ownBlock ∧ some k_ ≠ (v416 : Value).ownBlock ∧ k_ ≠ gb398 ∧ k_ ≠ gb414)) HO413.out (fun k_ hk => ⟨hk.1.1.2.2.2.1, ⟨hk.1.1.2.2.2.2.1, ⟨hk.1.1.2.2.2.2.2.1, ⟨hk.1.1.2.2.2.2.2.2.1, ⟨hk.1.1.2.2.2.2.2.2.2.1, ⟨hk.1.1.1, ⟨hk.1.1.2.1, ⟨hk.1.1.2.2.1, ⟨hk.2, ⟨hk.1.1.2.2.2.2.2.2.2.2, hk.1.2⟩⟩⟩⟩⟩⟩⟩⟩⟩⟩)); clear HO413; have HO413 := n_; clear n_; obtain ⟨Ao39, co39, eo39⟩ := Kd.R_slice HO417.out; subst eo39; have HX37 := Am (show Kd.N k38 38 w35 w.heap.size (fun k_ => some k_ ≠ (.slice Ao21 t386.length co21 : Value).ownBlock ∧ some k_ ≠ (.slice Ao23 t389.length co23 : Value).ownBlock ∧ some k_ ≠ (.slice Ao24 t392.length co24 : Value).ownBlock ∧ some k_ ≠ (.slice Ao25 t395.length co25 : Value).ownBlock ∧ some k_ ≠ (v400 : Value).ownBlock ∧ some k_ ≠ (.slice Ao29 t402.length co29 : Value).ownBlock ∧ some k_ ≠ (.slice Ao32 t405.length co32 : Value).ownBlock ∧ some k_ ≠ (.slice Ao33 t408.length co33 : Value).ownBlock ∧ k_ ≠ gb398 ∧ k_ ≠ gb414) (.slice (some ⟨go5, 0, none⟩) t411.length co34) t411 from (by (with_reducible repeat (first | apply Kd.N_alloc | apply Kd.N_drewN | apply Kd.N_drew)); exact Kd.N_mono HO413.out (fun _ hk => ⟨hk.1, ⟨hk.2.1, ⟨hk.2.2.1, ⟨hk.2.2.2.1, ⟨hk.2.2.2.2.1, ⟨hk.2.2.2.2.2.1, ⟨hk.2.2.2.2.2.2.1, ⟨hk.2.2.2.2.2.2.2.1, ⟨hk.2.2.2.2.2.2.2.2.2.1, hk.2.2.2.2.2.2.2.2.2.2⟩⟩⟩⟩⟩⟩⟩⟩⟩))); obtain ⟨ce37, hcl37, hM37, hcc37, hfr37⟩ := Kd.N_elem HX37.out z38 (1 : Int) (by omega) (by have h_ : (1 : Int) < ((t411.length : Int) : Int) := of_decide_eq_true az; first | exact h_ | (have e_ := (Kd.N_reads' HO413.out).1; omega) | simpa using h_); obtain ⟨ua37_2, uc37_2, ua37_3, uc37_3, ua37_4, uc37_4, rfl, ul37_2, ge37_2, ul37_3, ge37_3, ul37_4, ge37_4⟩ := k38_openF hM37; have HP37 := Kd.N_seg HX37.out (1 : Int) (by omega) (by have h_ : (1 : Int) < ((t411.length : Int) : Int) := of_decide_eq_true az; first | exact h_ | (have e_ := (Kd.N_reads' HO413.out).1; omega) | simpa using h_) (seg := [.slice Ao39 y415.length co39]) (j := 2) hcl37 hcc37 (show 3 ≤ 5 from by decide) (x' := (⟨(rd_T38 t411 1).f0, (rd_T38 t411 1).f1, y415, (rd_T38 t411 1).f3, (rd_T38 t411 1).f4⟩ : S38)) (k38_mkF _ _ (⟨(rd_T38 t411 1).f0, (rd_T38 t411 1).f1, y415, (rd_T38 t411 1).f3, (rd_T38 t411 1).f4⟩ : S38) (Kd.R_reads' (Kd.R_mono (ok' := (fun k_ => ((fun k_ => some k_ ≠ (.slice Ao21 t386.length co21 : Value).ownBlock ∧ some k_ ≠ (.slice Ao23 t389.length co23 : Value).ownBlock ∧ some k_ ≠ (.slice Ao24 t392.length co24 : Value).ownBlock ∧ some k_ ≠ (.slice Ao25 t395.length co25 : Value).ownBlock ∧ some k_ ≠ (v400 : Value).ownBlock ∧ some k_ ≠ (.slice Ao29 t402.length co29 : Value).ownBlock ∧ some k_ ≠ (.slice Ao32 t405.length co32 : Value).ownBlock ∧ some k_ ≠ (.slice Ao33 t408.length co33 : Value).ownBlock ∧ k_ ≠ gb398 ∧ k_ ≠ gb414)) k_ ∧ k_ ≠ go5)) (Kd.R_types (Kd.R_types (Kd.R_apart' (Kd.R_apart' (Kd.R_apart' (Kd.R_apart' (Kd.R_apart' (Kd.R_apart' (Kd.R_apart' (HO417.out) (Kd.R_typed HO388.out) (by decide)) (Kd.R_typed HO391.out) (by decide)) (Kd.N_typed HO397.out) (by decide)) (Kd.R_typed HO401.out) (by decide)) (Kd.R_typed HO404.out) (by decide)) (Kd.R_typed HO407.out) (by decide)) (Kd.N_typed HO413.out) (by decide)) BK398.out (by decide)) BK414.out (by decide)) (fun k_ hk => ⟨⟨hk.1.1.1.1.1.1.1.1.2, ⟨hk.1.1.1.1.1.1.1.2, ⟨hk.1.1.1.1.1.1.1.1.1.1.2, ⟨hk.1.1.1.1.1.1.2, ⟨hk.1.1.1.1.1.2, ⟨hk.1.1.1.1.2, ⟨hk.1.1.1.2, ⟨hk.1.1.1.1.1.1.1.1.1.2, ⟨hk.1.2, hk.2⟩⟩⟩⟩⟩⟩⟩⟩⟩, fun e_ => (hk.1.1.2) (by rw [e_]; rfl)⟩))).2.1 (Kd.R_F (Kd.R_mono (ok' := (fun k_ => ((fun k_ => some k_ ≠ (.slice Ao21 t386.length co21 : Value).ownBlock ∧ some k_ ≠ (.slice Ao23 t389.length co23 : Value).ownBlock ∧ some k_ ≠ (.slice Ao24 t392.length co24 : Value).ownBlock ∧ some k_ ≠ (.slice Ao25 t395.length co25 : Value).ownBlock ∧ some k_ ≠ (v400 : Value).ownBlock ∧ some k_ ≠ (.slice Ao29 t402.length co29 : Value).ownBlock ∧ some k_ ≠ (.slice Ao32 t405.length co32 : Value).ownBlock ∧ some k_ ≠ (.slice Ao33 t408.length co33 : Value).ownBlock ∧ k_ ≠ gb398 ∧ k_ ≠ gb414)) k_ ∧ k_ ≠ go5)) (Kd.R_types (Kd.R_types (Kd.R_apart' (Kd.R_apart' (Kd.R_apart' (Kd.R_apart' (Kd.R_apart' (Kd.R_apart' (Kd.R_apart' (HO417.out) (Kd.R_typed HO388.out) (by decide)) (Kd.R_typed HO391.out) (by decide)) (Kd.N_typed HO397.out) (by decide)) (Kd.R_typed HO401.out) (by decide)) (Kd.R_typed HO404.out) (by decide)) (Kd.R_typed HO407.out) (by decide)) (Kd.N_typed HO413.out) (by decide)) BK398.out (by decide)) BK414.out (by decide)) (fun k_ hk => ⟨⟨hk.1.1.1.1.1.1.1.1.2, ⟨hk.1.1.1.1.1.1.1.2, ⟨hk.1.1.1.1.1.1.1.1.1.1.2, ⟨hk.1.1.1.1.1.1.2, ⟨hk.1.1.1.1.1.2, ⟨hk.1.1.1.1.2, ⟨hk.1.1.1.2, ⟨hk.1.1.1.1.1.1.1.1.1.2, ⟨hk.1.2, hk.2⟩⟩⟩⟩⟩⟩⟩⟩⟩, fun e_ => (hk.1.1.2) (by rw [e_]; rfl)⟩))) ul37_3 ge37_3 ul37_4 ge37_4) (fun _ hk => hk); have hx37_2 := hcc37 2 _ rfl; (try simp only [show (k38).sz = 5 from rfl, Nat.mul_one, Nat.add_zero] at hx37_2); (try rw [show ((1 : Int)).toNat = 1 from rfl] at hx37_2); (try simp only [Nat.reduceMul, Nat.zero_mul, Nat.zero_add, Nat.reduceAdd] at hx37_2); have hf37_2 := hfr37 2; (try simp only [show (k38).sz = 5 from rfl, Nat.mul_one, Nat.add_zero] at hf37_2); (try rw [show ((1 : Int)).toNat = 1 from rfl] at hf37_2); (try simp only [Nat.reduceMul, Nat.zero_mul, Nat.zero_add, Nat.reduceAdd] at hf37_2); clear hcl37 hcc37 hfr37 hM37) | ((with_reducible refine gate_store (t := 23) (p := 12) rfl ?_); refine store_event (t := 23) (p := 12) (v := ?vo_w38) (w1 := (w35.setCell ⟨go5, 7, none⟩ (.slice Ao39 y415.length co39))) ?hg ?ho ?hn ?hr ?_; (case ho => rfl); (case hg => rfl); (case hn => rfl); (case hr => first | (go_simp; done) | (go_simp; rfl)); intro w38 hw; have hg : w35.grownBy w38 (some go5) := (by rw [hw]; exact HP37.2); have hp_ : Kd.N k38 38 w38 w.heap.size (fun k_ => some k_ ≠ (.slice Ao21 t386.length co21 : Value).ownBlock ∧ some k_ ≠ (.slice Ao23 t389.length co23 : Value).ownBlock ∧ some k_ ≠ (.slice Ao24 t392.length co24 : Value).ownBlock ∧ some k_ ≠ (.slice Ao25 t395.length co25 : Value).ownBlock ∧ some k_ ≠ (v400 : Value).ownBlock ∧ some k_ ≠ (.slice Ao29 t402.length co29 : Value).ownBlock ∧ some k_ ≠ (.slice Ao32 t405.length co32 : Value).ownBlock ∧ some k_ ≠ (.slice Ao33 t408.length co33 : Value).ownBlock ∧ k_ ≠ gb398 ∧ k_ ≠ gb414) (.slice (some ⟨go5, 0, none⟩) t411.length co34) y418 := (by rw [hw, Ny418.out]; exact HP37.1); clear HP37; have n0_ := Am (Kd.R_over' (v := (.slice (some ⟨go5, 0, none⟩) t411.length co34)) (kR HO388) (Kd.N_typed HO413.out) (by decide) hg); have n1_ := Am (Kd.R_over' (v := (.slice (some ⟨go5, 0, none⟩) t411.length co34)) (kR HO391) (Kd.N_typed HO413.out) (by decide) hg); have n2_ := Am (Kd.R_over' (v := (.slice (some ⟨go5, 0, none⟩) t411.length co34)) (kR HO394) (Kd.N_typed HO413.out) (by decide) hg); have n3_ := Am (Kd.N_afterv (v := (.slice (some ⟨go5, 0, none⟩) t411.length co34)) (v1 := (.slice (some ⟨go5, 0, none⟩) t411.length co34)) (ok := (fun k_ => some k_ ≠ (.slice Ao21 t386.length co21 : Value).ownBlock ∧ some k_ ≠ (.slice Ao23 t389.length co23 : Value).ownBlock ∧ some k_ ≠ (.slice Ao24 t392.length co24 : Value).ownBlock ∧ some k_ ≠ (v400 : Value).ownBlock ∧ some k_ ≠ (.slice Ao29 t402.length co29 : Value).ownBlock ∧ some k_ ≠ (.slice Ao32 t405.length co32 : Value).ownBlock ∧ some k_ ≠ (.slice Ao33 t408.length co33 : Value).ownBlock ∧ some k_ ≠ (.slice Ao39 y415.length co39 : Value).ownBlock ∧ k_ ≠ gb398 ∧ k_ ≠ gb414)) (by (with_reducible repeat (first | apply Kd.N_alloc | apply Kd.N_drewN | apply Kd.N_drew)); exact Kd.N_mono HO397.out (fun _ hk => ⟨⟨hk.1.1.1.1.1.1.1.1.1, ⟨hk.1.1.1.1.1.1.1.1.2.1, ⟨hk.1.1.1.1.1.1.1.1.2.2, ⟨hk.1.1.1.1.1.1.2, ⟨hk.1.1.1.1.1.2, ⟨hk.1.1.1.1.2, ⟨hk.1.1.1.2, ⟨hk.2, ⟨hk.1.1.1.1.1.1.1.2, hk.1.2⟩⟩⟩⟩⟩⟩⟩⟩⟩, hk.1.1.2⟩)) hg (.inl rfl)); have n4_ := Am (blk_grown (g := gb398) (o := .cells #[.slice Ao21 t386.length co21, .slice Ao23 t389.length co23, .slice Ao24 t392.length co24, .slice Ao25 t395.length co25] 26 (0, 0)) (kB BK398) hg (Kd.N_ne HO413.out BK398.out (by decide))); have n5_ := Am (Kd.R_over' (v := (.slice (some ⟨go5, 0, none⟩) t411.length co34)) (kR HO401) (Kd.N_typed HO413.out) (by decide) hg); have n6_ := Am (Kd.R_over' (v := (.slice (some ⟨go5, 0, none⟩) t411.length co34)) (kR HO404) (Kd.N_typed HO413.out) (by decide) hg); have n7_ := Am (Kd.R_over' (v := (.slice (some ⟨go5, 0, none⟩) t411.length co34)) (kR HO407) (Kd.N_typed HO413.out) (by decide) hg); have n8_ := Am (Kd.R_over' (v := (.slice (some ⟨go5, 0, none⟩) t411.length co34)) (kR HO410) (Kd.N_typed HO413.out) (by decide) hg); have n9_ := Am (hp_); have n10_ := Am (blk_grown (g := gb414) (o := .cells #[.slice Ao29 t402.length co29, .slice Ao32 t405.length co32, .slice Ao33 t408.length co33, .slice (some ⟨go5, 0, none⟩) t411.length co34] 26 (0, 0)) (kB BK414) hg (Kd.N_ne HO413.out BK414.out (by decide))); have n11_ := Am ((by rw [hw]; exact below_set (HB.out) GB5.out : Below w.heap.size w w38)); clear HO388; clear HO391; clear HO394; clear HO397; clear BK398; clear HO401; clear HO404; clear HO407; clear HO410; clear HO413; clear BK414; clear HB; clear HO417; have HO388 := n0_; have HO391 := n1_; have HO394 := n2_; have HO397 := n3_; have BK398 := n4_; have HO401 := n5_; have HO404 := n6_; have HO407 := n7_; have HO410 := n8_; have HO413 := n9_; have BK414 := n10_; have HB := n11_; clear n0_ n1_ n2_ n3_ n4_ n5_ n6_ n7_ n8_ n9_ n10_ n11_; clear hg hw hp_; have hcz40_0 := cz0 BK398.out; have hcz40_1 := cz1 BK398.out; have hcz40_2 := cz2 BK398.out; have hcz40_3 := cz3 BK398.out; have hfz40_0 := fz BK398 0; have hfz40_1 := fz BK398 1; have hfz40_2 := fz BK398 2; have hfz40_3 := fz BK398 3) | ((with_reducible refine gate_callee (f := 10) rfl ?_); refine goesL_ (some 14) rfl rfl Try.func10 (by kernel_rfl) rfl #[.agg #[.slice Ao21 t386.length co21, .slice Ao23 t389.length co23, .slice Ao24 t392.length co24, .slice Ao25 t395.length co25]] rfl aq ?_; (with_reducible refine (rules_Check.calls k _ _ t386 _ _ t389 _ _ t392 _ _ t395 t419 t420 t421 t422 _ ?side1 ?side2 ?side3 ?side4 ?side5 ?side6 ?side7 ?side8 A6.out).mono ?_); (case side1 => repeat (first | exact (Kd.R_reads' HO388.out).2.2 | (with_reducible refine Kd.C_alloc ?_ _) | (with_reducible refine Kd.C_drewN ?_ _) | (with_reducible refine Kd.C_drew ?_))); (case side2 => exact (Kd.R_reads' HO388.out).2.1); (case side3 => repeat (first | exact (Kd.R_reads' HO391.out).2.2 | (with_reducible refine Kd.C_alloc ?_ _) | (with_reducible refine Kd.C_drewN ?_ _) | (with_reducible refine Kd.C_drew ?_))); (case side4 => exact (Kd.R_reads' HO391.out).2.1); (case side5 => repeat (first | exact (Kd.R_reads' HO394.out).2.2 | (with_reducible refine Kd.C_alloc ?_ _) | (with_reducible refine Kd.C_drewN ?_ _) | (with_reducible refine Kd.C_drew ?_))); (case side6 => exact (Kd.R_reads' HO394.out).2.1); (case side7 => repeat (first | exact (Kd.N_reads' HO397.out).2.2 | (with_reducible refine Kd.C_alloc ?_ _) | (with_reducible refine Kd.C_drewN ?_ _) | (with_reducible refine Kd.C_drew ?_))); (case side8 => exact (Kd.N_reads' HO397.out).2.1); rintro e w41 ⟨rfl, hb⟩; refine ⟨_, rfl, ?_⟩; have n0_ := Am (Kd.R_below (kR HO388) hb); have n1_ := Am (Kd.R_below (kR HO391) hb); have n2_ := Am (Kd.R_below (kR HO394) hb); have n3_ := Am (Kd.N_below (by (with_reducible repeat (first | apply Kd.N_alloc | apply Kd.N_drewN | apply Kd.N_drew)); exact HO397.out) hb); have n4_ := Am (Kd.R_below (kR HO401) hb); have n5_ := Am (Kd.R_below (kR HO404) hb); have n6_ := Am (Kd.R_below (kR HO407) hb); have n7_ := Am (Kd.R_below (kR HO410) hb); have n8_ := Am (Kd.N_below (by (with_reducible repeat (first | apply Kd.N_alloc | apply Kd.N_drewN | apply Kd.N_drew)); exact HO413.out) hb); have n9_ := Am (blk_below (kB BK398) hb); have n10_ := Am (blk_below (kB BK414) hb); have n11_ := Am (below_step (bs) hb); clear HO388; clear HO391; clear HO394; clear HO397; clear HO401; clear HO404; clear HO407; clear HO410; clear HO413; clear BK398; clear BK414; clear HB; have HO388 := n0_; have HO391 := n1_; have HO394 := n2_; have HO397 := n3_; have HO401 := n4_; have HO404 := n5_; have HO407 := n6_; have HO410 := n7_; have HO413 := n8_; have BK398 := n9_; have BK414 := n10_; have HB := n11_; clear n0_ n1_ n2_ n3_ n4_ n5_ n6_ n7_ n8_ n9_ n10_ n11_; (try clear hb); (try clear hb2); (try clear hk); (try clear hi); have hcz42_0 := cz0 BK398.out; have hcz42_1 := cz1 BK398.out; have hcz42_2 := cz2 BK398.out; have hcz42_3 := cz3 BK398.out; have hfz42_0 := fz BK398 0; have hfz42_1 := fz BK398 1; have hfz42_2 := fz BK398 2; have hfz42_3 := fz BK398 3) | (go_at_call 15; (with_reducible refine (rules_Find.calls k _ _ t386 _ _ t389 _ _ t392 _ _ t395 (⟨#[99, 108, 111, 115, 101]⟩ : ByteArray) t423 _ ?side1 ?side2 ?side3 ?side4 ?side5 ?side6 ?side7 ?side8 A8.out).mono ?_); (case side1 => repeat (first | exact (Kd.R_reads' HO388.out).2.2 | (with_reducible refine Kd.C_alloc ?_ _) | (with_reducible refine Kd.C_drewN ?_ _) | (with_reducible refine Kd.C_drew ?_))); (case side2 => exact (Kd.R_reads' HO388.out).2.1); (case side3 => repeat (first | exact (Kd.R_reads' HO391.out).2.2 | (with_reducible refine Kd.C_alloc ?_ _) | (with_reducible refine Kd.C_drewN ?_ _) | (with_reducible refine Kd.C_drew ?_))); (case side4 => exact (Kd.R_reads' HO391.out).2.1); (case side5 => repeat (first | exact (Kd.R_reads' HO394.out).2.2 | (with_reducible refine Kd.C_alloc ?_ _) | (with_reducible refine Kd.C_drewN ?_ _) | (with_reducible refine Kd.C_drew ?_))); (case side6 => exact (Kd.R_reads' HO394.out).2.1); (case side7 => repeat (first | exact (Kd.N_reads' HO397.out).2.2 | (with_reducible refine Kd.C_alloc ?_ _) | (with_reducible refine Kd.C_drewN ?_ _) | (with_reducible refine Kd.C_drew ?_))); (case side8 => exact (Kd.N_reads' HO397.out).2.1); rintro e w43 ⟨rfl, hb⟩; have n0_ := Am (Kd.R_below (kR HO388) hb); have n1_ := Am (Kd.R_below (kR HO391) hb); have n2_ := Am (Kd.R_below (kR HO394) hb); have n3_ := Am (Kd.N_below (by (with_reducible repeat (first | apply Kd.N_alloc | apply Kd.N_drewN | apply Kd.N_drew)); exact HO397.out) hb); have n4_ := Am (Kd.R_below (kR HO401) hb); have n5_ := Am (Kd.R_below (kR HO404) hb); have n6_ := Am (Kd.R_below (kR HO407) hb); have n7_ := Am (Kd.R_below (kR HO410) hb); have n8_ := Am (Kd.N_below (by (with_reducible repeat (first | apply Kd.N_alloc | apply Kd.N_drewN | apply Kd.N_drew)); exact HO413.out) hb); have n9_ := Am (blk_below (kB BK398) hb); have n10_ := Am (blk_below (kB BK414) hb); have n11_ := Am (below_step (bs) hb); clear HO388; clear HO391; clear HO394; clear HO397; clear HO401; clear HO404; clear HO407; clear HO410; clear HO413; clear BK398; clear BK414; clear HB; have HO388 := n0_; have HO391 := n1_; have HO394 := n2_; have HO397 := n3_; have HO401 := n4_; have HO404 := n5_; have HO407 := n6_; have HO410 := n7_; have HO413 := n8_; have BK398 := n9_; have BK414 := n10_; have HB := n11_; clear n0_ n1_ n2_ n3_ n4_ n5_ n6_ n7_ n8_ n9_ n10_ n11_; (try clear hb); (try clear hb2); (try clear hk); (try clear hi); obtain ⟨Ao44, co44, eo44⟩ := Kd.R_slice HO401.out; subst eo44; have p424 : 0 ≤ (2 : Int) := (by omega); have q424 : 2 < (t399.length : Int) := of_decide_eq_true az; obtain ⟨ad424, e424, hx424_0⟩ := Kd.at_bool (Kd.R_reads' HO401.out).2.2 2 p424 q424; (try rw [← Nbq12.out] at hx424_0); cases e424; (try simp only [show (2 : Int).toNat = 2 from rfl, Nat.reduceMul, Nat.reduceEqDiff, Go.Addr.add, ↓reduceIte] at hx424_0); have qi424 : (2 < t399.length) = True := eq_true (by omega); (try rw [show ((2 : Int)).toNat = 2 from rfl] at hx424_0); replace p424 := eq_true p424; replace q424 := eq_true q424; have hcz45_0 := cz0 BK398.out; have hcz45_1 := cz1 BK398.out; have hcz45_2 := cz2 BK398.out; have hcz45_3 := cz3 BK398.out; have hfz45_0 := fz BK398 0; have hfz45_1 := fz BK398 1; have hfz45_2 := fz BK398 2; have hfz45_3 := fz BK398 3) | (go_at_call 13; (with_reducible refine (rules_For.calls k _ _ t386 _ _ t389 _ _ t392 _ _ t395 3 2 true _ ?side1 ?side2 ?side3 ?side4 ?side5 ?side6 ?side7 ?side8 A14.out).mono ?_); (case side1 => repeat (first | exact (Kd.R_reads' HO388.out).2.2 | (with_reducible refine Kd.C_alloc ?_ _) | (with_reducible refine Kd.C_drewN ?_ _) | (with_reducible refine Kd.C_drew ?_))); (case side2 => exact (Kd.R_reads' HO388.out).2.1); (case side3 => repeat (first | exact (Kd.R_reads' HO391.out).2.2 | (with_reducible refine Kd.C_alloc ?_ _) | (with_reducible refine Kd.C_drewN ?_ _) | (with_reducible refine Kd.C_drew ?_))); (case side4 => exact (Kd.R_reads' HO391.out).2.1); (case side5 => repeat (first | exact (Kd.R_reads' HO394.out).2.2 | (with_reducible refine Kd.C_alloc ?_ _) | (with_reducible refine Kd.C_drewN ?_ _) | (with_reducible refine Kd.C_drew ?_))); (case side6 => exact (Kd.R_reads' HO394.out).2.1); (case side7 => repeat (first | exact (Kd.N_reads' HO397.out).2.2 | (with_reducible refine Kd.C_alloc ?_ _) | (with_reducible refine Kd.C_drewN ?_ _) | (with_reducible refine Kd.C_drew ?_))); (case side8 => exact (Kd.N_reads' HO397.out).2.1); rintro e w46 ⟨rfl, hb⟩; have n0_ := Am (Kd.R_below (kR HO388) hb); have n1_ := Am (Kd.R_below (kR HO391) hb); have n2_ := Am (Kd.R_below (kR HO394) hb); have n3_ := Am (Kd.N_below (by (with_reducible repeat (first | apply Kd.N_alloc | apply Kd.N_drewN | apply Kd.N_drew)); exact HO397.out) hb); have n4_ := Am (Kd.R_below (kR HO401) hb); have n5_ := Am (Kd.R_below (kR HO404) hb); have n6_ := Am (Kd.R_below (kR HO407) hb); have n7_ := Am (Kd.R_below (kR HO410) hb); have n8_ := Am (Kd.N_below (by (with_reducible repeat (first | apply Kd.N_alloc | apply Kd.N_drewN | apply Kd.N_drew)); exact HO413.out) hb); have n9_ := Am (blk_below (kB BK398) hb); have n10_ := Am (blk_below (kB BK414) hb); have n11_ := Am (below_step (bs) hb); clear HO388; clear HO391; clear HO394; clear HO397; clear HO401; clear HO404; clear HO407; clear HO410; clear HO413; clear BK398; clear BK414; clear HB; have HO388 := n0_; have HO391 := n1_; have HO394 := n2_; have HO397 := n3_; have HO401 := n4_; have HO404 := n5_; have HO407 := n6_; have HO410 := n7_; have HO413 := n8_; have BK398 := n9_; have BK414 := n10_; have HB := n11_; clear n0_ n1_ n2_ n3_ n4_ n5_ n6_ n7_ n8_ n9_ n10_ n11_; (try clear hb); (try clear hb2); (try clear hk); (try clear hi); have hcz47_0 := cz0 BK398.out; have hcz47_1 := cz1 BK398.out; have hcz47_2 := cz2 BK398.out; have hcz47_3 := cz3 BK398.out; have hfz47_0 := fz BK398 0; have hfz47_1 := fz BK398 1; have hfz47_2 := fz BK398 2; have hfz47_3 := fz BK398 3) | (go_at_call 13; (with_reducible refine (rules_For.calls k _ _ t386 _ _ t389 _ _ t392 _ _ t395 0 2 false _ ?side1 ?side2 ?side3 ?side4 ?side5 ?side6 ?side7 ?side8 A16.out).mono ?_); (case side1 => repeat (first | exact (Kd.R_reads' HO388.out).2.2 | (with_reducible refine Kd.C_alloc ?_ _) | (with_reducible refine Kd.C_drewN ?_ _) | (with_reducible refine Kd.C_drew ?_))); (case side2 => exact (Kd.R_reads' HO388.out).2.1); (case side3 => repeat (first | exact (Kd.R_reads' HO391.out).2.2 | (with_reducible refine Kd.C_alloc ?_ _) | (with_reducible refine Kd.C_drewN ?_ _) | (with_reducible refine Kd.C_drew ?_))); (case side4 => exact (Kd.R_reads' HO391.out).2.1); (case side5 => repeat (first | exact (Kd.R_reads' HO394.out).2.2 | (with_reducible refine Kd.C_alloc ?_ _) | (with_reducible refine Kd.C_drewN ?_ _) | (with_reducible refine Kd.C_drew ?_))); (case side6 => exact (Kd.R_reads' HO394.out).2.1); (case side7 => repeat (first | exact (Kd.N_reads' HO397.out).2.2 | (with_reducible refine Kd.C_alloc ?_ _) | (with_reducible refine Kd.C_drewN ?_ _) | (with_reducible refine Kd.C_drew ?_))); (case side8 => exact (Kd.N_reads' HO397.out).2.1); rintro e w48 ⟨rfl, hb⟩; have n0_ := Am (Kd.R_below (kR HO388) hb); have n1_ := Am (Kd.R_below (kR HO391) hb); have n2_ := Am (Kd.R_below (kR HO394) hb); have n3_ := Am (Kd.N_below (by (with_reducible repeat (first | apply Kd.N_alloc | apply Kd.N_drewN | apply Kd.N_drew)); exact HO397.out) hb); have n4_ := Am (Kd.R_below (kR HO401) hb); have n5_ := Am (Kd.R_below (kR HO404) hb); have n6_ := Am (Kd.R_below (kR HO407) hb); have n7_ := Am (Kd.R_below (kR HO410) hb); have n8_ := Am (Kd.N_below (by (with_reducible repeat (first | apply Kd.N_alloc | apply Kd.N_drewN | apply Kd.N_drew)); exact HO413.out) hb); have n9_ := Am (blk_below (kB BK398) hb); have n10_ := Am (blk_below (kB BK414) hb); have n11_ := Am (below_step (bs) hb); clear HO388; clear HO391; clear HO394; clear HO397; clear HO401; clear HO404; clear HO407; clear HO410; clear HO413; clear BK398; clear BK414; clear HB; have HO388 := n0_; have HO391 := n1_; have HO394 := n2_; have HO397 := n3_; have HO401 := n4_; have HO404 := n5_; have HO407 := n6_; have HO410 := n7_; have HO413 := n8_; have BK398 := n9_; have BK414 := n10_; have HB := n11_; clear n0_ n1_ n2_ n3_ n4_ n5_ n6_ n7_ n8_ n9_ n10_ n11_; (try clear hb); (try clear hb2); (try clear hk); (try clear hi); have hcz49_0 := cz0 BK414.out; have hcz49_1 := cz1 BK414.out; have hcz49_2 := cz2 BK414.out; have hcz49_3 := cz3 BK414.out; have hfz49_0 := fz BK414 0; have hfz49_1 := fz BK414 1; have hfz49_2 := fz BK414 2; have hfz49_3 := fz BK414 3) | (go_at_call 10; refine calls_of_args (args' := #[.agg #[.slice Ao29 t402.length co29, .slice Ao32 t405.length co32, .slice Ao33 t408.length co33, .slice (some ⟨go5, 0, none⟩) y418.length co34]]) (by first | (rw [show y418.length = t411.length from (Kd.N_reads' HO413.out).1.symm] <;> rfl) | rfl) ?_; (with_reducible refine (rules_Check.calls k _ _ t402 _ _ t405 _ _ t408 _ _ y418 t427 t428 t429 t430 _ ?side1 ?side2 ?side3 ?side4 ?side5 ?side6 ?side7 ?side8 A18.out).mono ?_); (case side1 => repeat (first | exact (Kd.R_reads' HO404.out).2.2 | (with_reducible refine Kd.C_alloc ?_ _) | (with_reducible refine Kd.C_drewN ?_ _) | (with_reducible refine Kd.C_drew ?_))); (case side2 => exact (Kd.R_reads' HO404.out).2.1); (case side3 => repeat (first | exact (Kd.R_reads' HO407.out).2.2 | (with_reducible refine Kd.C_alloc ?_ _) | (with_reducible refine Kd.C_drewN ?_ _) | (with_reducible refine Kd.C_drew ?_))); (case side4 => exact (Kd.R_reads' HO407.out).2.1); (case side5 => repeat (first | exact (Kd.R_reads' HO410.out).2.2 | (with_reducible refine Kd.C_alloc ?_ _) | (with_reducible refine Kd.C_drewN ?_ _) | (with_reducible refine Kd.C_drew ?_))); (case side6 => exact (Kd.R_reads' HO410.out).2.1); (case side7 => repeat (first | exact (Kd.N_reads' HO413.out).2.2 | (with_reducible refine Kd.C_alloc ?_ _) | (with_reducible refine Kd.C_drewN ?_ _) | (with_reducible refine Kd.C_drew ?_))); (case side8 => rw [show y418.length = t411.length from (Kd.N_reads' HO413.out).1.symm]; exact (Kd.N_reads' HO413.out).2.1); rintro e w50 ⟨rfl, hb⟩; have n0_ := Am (Kd.R_below (kR HO388) hb); have n1_ := Am (Kd.R_below (kR HO391) hb); have n2_ := Am (Kd.R_below (kR HO394) hb); have n3_ := Am (Kd.N_below (by (with_reducible repeat (first | apply Kd.N_alloc | apply Kd.N_drewN | apply Kd.N_drew)); exact HO397.out) hb); have n4_ := Am (Kd.R_below (kR HO401) hb); have n5_ := Am (Kd.R_below (kR HO404) hb); have n6_ := Am (Kd.R_below (kR HO407) hb); have n7_ := Am (Kd.R_below (kR HO410) hb); have n8_ := Am (Kd.N_below (by (with_reducible repeat (first | apply Kd.N_alloc | apply Kd.N_drewN | apply Kd.N_drew)); exact HO413.out) hb); have n9_ := Am (blk_below (kB BK398) hb); have n10_ := Am (blk_below (kB BK414) hb); have n11_ := Am (below_step (bs) hb); clear HO388; clear HO391; clear HO394; clear HO397; clear HO401; clear HO404; clear HO407; clear HO410; clear HO413; clear BK398; clear BK414; clear HB; have HO388 := n0_; have HO391 := n1_; have HO394 := n2_; have HO397 := n3_; have HO401 := n4_; have HO404 := n5_; have HO407 := n6_; have HO410 := n7_; have HO413 := n8_; have BK398 := n9_; have BK414 := n10_; have HB := n11_; clear n0_ n1_ n2_ n3_ n4_ n5_ n6_ n7_ n8_ n9_ n10_ n11_; (try clear hb); (try clear hb2); (try clear hk); (try clear hi)))
         go_ret
         exact ⟨xq, bs⟩
       ·
        replace c15 := Bool.eq_false_iff.mpr c15
        subst c15
        have H1 : (none) = some r := by rw [if_neg (show ¬ (false = true) by decide)] at H; exact H
        clear H
        have H := H1
        clear H1
        exact absurd H (by simp)
      ·
       replace c13 := Bool.eq_false_iff.mpr c13
       subst c13
       have H1 : (none) = some r := by rw [if_neg (show ¬ (false = true) by decide)] at H; exact H
       clear H
       have H := H1
       clear H1
       exact absurd H (by simp)
     ·
      rw [if_neg c11] at H
      exact absurd H (by simp)
    ·
     rw [if_neg c10] at H
     exact absurd H (by simp)
   ·
    rw [if_neg c9] at H
    exact absurd H (by simp)
  ·
   rw [if_neg c7] at H
   exact absurd H (by simp)
 ·
  rw [if_neg c4] at H
  exact absurd H (by simp)

/-! ### surmiseref04_letter: function 51 -/
def surmiseref04_letter.f (a0 : Int) : Option (Bool) := if a0 ≥ 97 then (some (decide (a0 ≤ 122))) else (some false)
set_option maxHeartbeats 8000000 in
set_option maxRecDepth 100000 in
theorem surmiseref04_letter.calls (a0 : Int) (r : Bool) (w : World) (h : surmiseref04_letter.f a0 = some r) :
  Calls Try.prog 51 #[.int .u8 a0] w fun e w' => e = .returned (.bool r) ∧ Drawn0 w w' := by
 have H : (if a0 ≥ 97 then (some (decide (a0 ≤ 122))) else (some false)) = some r := h
 clear h
 by_cases c2 : a0 ≥ 97
 ·
  rw [if_pos c2] at H
  have c2b0 : decide (97 ≤ a0) = true := decide_eq_true c2
  clear c2
  obtain rfl := Option.some.inj H
  go_enter Try.func51, Try.ntmps51
  go_wp2
  go_ret
  exact ⟨by first | rfl | (simp; done) | (simp [*]; done), by repeat (first | exact Drawn0.refl _ | apply Drawn0.step)⟩
 ·
  rw [if_neg c2] at H
  have c2b0 : decide (97 ≤ a0) = false := decide_eq_false c2
  clear c2
  obtain rfl := Option.some.inj H
  go_enter Try.func51, Try.ntmps51
  go_wp2
  go_ret
  exact ⟨by first | rfl | (simp; done) | (simp [*]; done), by repeat (first | exact Drawn0.refl _ | apply Drawn0.step)⟩

/-! ### surmiseref04_digit: function 52 -/
def surmiseref04_digit.f (a0 : Int) : Option (Bool) := if a0 ≥ 48 then (some (decide (a0 ≤ 57))) else (some false)
set_option maxHeartbeats 8000000 in
set_option maxRecDepth 100000 in
theorem surmiseref04_digit.calls (a0 : Int) (r : Bool) (w : World) (h : surmiseref04_digit.f a0 = some r) :
  Calls Try.prog 52 #[.int .u8 a0] w fun e w' => e = .returned (.bool r) ∧ Drawn0 w w' := by
 have H : (if a0 ≥ 48 then (some (decide (a0 ≤ 57))) else (some false)) = some r := h
 clear h
 by_cases c2 : a0 ≥ 48
 ·
  rw [if_pos c2] at H
  have c2b0 : decide (48 ≤ a0) = true := decide_eq_true c2
  clear c2
  obtain rfl := Option.some.inj H
  go_enter Try.func52, Try.ntmps52
  go_wp2
  go_ret
  exact ⟨by first | rfl | (simp; done) | (simp [*]; done), by repeat (first | exact Drawn0.refl _ | apply Drawn0.step)⟩
 ·
  rw [if_neg c2] at H
  have c2b0 : decide (48 ≤ a0) = false := decide_eq_false c2
  clear c2
  obtain rfl := Option.some.inj H
  go_enter Try.func52, Try.ntmps52
  go_wp2
  go_ret
  exact ⟨by first | rfl | (simp; done) | (simp [*]; done), by repeat (first | exact Drawn0.refl _ | apply Drawn0.step)⟩

/-! ### surmiseref04_Name: function 32 -/
mutual
def surmiseref04_Name.j0 : Nat → ByteArray → Bool → Option (Bool)
 | 0, _, _ => none
 | k + 1, x0, x29 => if x29 = true then (some false) else (surmiseref04_Name.l0 k x0 0)
def surmiseref04_Name.l0 : Nat → ByteArray → Int → Option (Bool)
 | 0, _, _ => none
 | k + 1, x0, x3 => if x3 < (x0.size : Int) then (if 0 ≤ x3 then ((surmiseref04_letter.f (bt x0 x3)).bind fun t432 => (if t432 = true then (surmiseref04_Name.l0 k x0 (wrap64 (x3 + 1))) else ((surmiseref04_digit.f (bt x0 x3)).bind fun t433 => (if t433 = true then (surmiseref04_Name.l0 k x0 (wrap64 (x3 + 1))) else (if (bt x0 x3) = 95 then (surmiseref04_Name.l0 k x0 (wrap64 (x3 + 1))) else (some false)))))) else (none)) else (some true)
end
def surmiseref04_Name.f (k : Nat) (a0 : ByteArray) : Option (Bool) := if (a0.size : Int) = 0 then (surmiseref04_Name.j0 k a0 true) else (if (a0.size : Int) > 24 then (surmiseref04_Name.j0 k a0 true) else (if a0.toList = ([109, 105, 110] : List UInt8) then (surmiseref04_Name.j0 k a0 true) else (if a0.toList = ([109, 97, 120] : List UInt8) then (surmiseref04_Name.j0 k a0 true) else (if a0.toList = ([105, 102] : List UInt8) then (surmiseref04_Name.j0 k a0 true) else (if 0 < (a0.size : Int) then ((surmiseref04_letter.f (bt a0 0)).bind fun t431 => (surmiseref04_Name.j0 k a0 (!t431))) else (none))))))
theorem surmiseref04_Name.mono_l : ∀ k, (∀ y0 y1, LeO (surmiseref04_Name.j0 k y0 y1) (surmiseref04_Name.j0 (k + 1) y0 y1)) ∧ (∀ y0 y1, LeO (surmiseref04_Name.l0 k y0 y1) (surmiseref04_Name.l0 (k + 1) y0 y1))
 | 0 => ⟨fun _ _ r h => by simp [surmiseref04_Name.j0] at h, fun _ _ r h => by simp [surmiseref04_Name.l0] at h⟩
 | k + 1 => by
  obtain ⟨ih0, ih1⟩ := surmiseref04_Name.mono_l k
  refine ⟨?_, ?_⟩
  ·
   intro y0 y1
   unfold surmiseref04_Name.j0
   repeat' first
   | (with_reducible exact ih0 _ _)
   | (with_reducible exact ih1 _ _)
   | (with_reducible exact LeO.refl _)
   | (with_reducible exact LeO.none _)
   | (with_reducible refine LeO.ite ?_ ?_)
   | (with_reducible refine LeO.bind ?_ (fun _ => ?_))
   | exact ih0 _ _
   | exact ih1 _ _
   | exact LeO.none _
   | refine LeO.ite ?_ ?_
   | refine LeO.bind ?_ (fun _ => ?_)
  ·
   intro y0 y1
   unfold surmiseref04_Name.l0
   repeat' first
   | (with_reducible exact ih0 _ _)
   | (with_reducible exact ih1 _ _)
   | (with_reducible exact LeO.refl _)
   | (with_reducible exact LeO.none _)
   | (with_reducible refine LeO.ite ?_ ?_)
   | (with_reducible refine LeO.bind ?_ (fun _ => ?_))
   | exact ih0 _ _
   | exact ih1 _ _
   | exact LeO.none _
   | refine LeO.ite ?_ ?_
   | refine LeO.bind ?_ (fun _ => ?_)
theorem surmiseref04_Name.mono : ∀ a0 k, LeO (surmiseref04_Name.f k a0) (surmiseref04_Name.f (k + 1) a0) := by
 intro a0 k
 obtain ⟨ih0, ih1⟩ := surmiseref04_Name.mono_l k
 unfold surmiseref04_Name.f
 repeat' first
   | (with_reducible exact ih0 _ _)
   | (with_reducible exact ih1 _ _)
   | (with_reducible exact LeO.refl _)
   | (with_reducible exact LeO.none _)
   | (with_reducible refine LeO.ite ?_ ?_)
   | (with_reducible refine LeO.bind ?_ (fun _ => ?_))
   | exact ih0 _ _
   | exact ih1 _ _
   | exact LeO.none _
   | refine LeO.ite ?_ ?_
   | refine LeO.bind ?_ (fun _ => ?_)
set_option maxHeartbeats 8000000 in
set_option maxRecDepth 100000 in
theorem surmiseref04_Name.calls (k : Nat) (a0 : ByteArray) (r : Bool) (w : World) (h : surmiseref04_Name.f k a0 = some r) :
  Calls Try.prog 32 #[.string a0] w fun e w' => e = .returned (.bool r) ∧ Drawn0 w w' := by
 have H : (if (a0.size : Int) = 0 then (surmiseref04_Name.j0 k a0 true) else (if (a0.size : Int) > 24 then (surmiseref04_Name.j0 k a0 true) else (if a0.toList = ([109, 105, 110] : List UInt8) then (surmiseref04_Name.j0 k a0 true) else (if a0.toList = ([109, 97, 120] : List UInt8) then (surmiseref04_Name.j0 k a0 true) else (if a0.toList = ([105, 102] : List UInt8) then (surmiseref04_Name.j0 k a0 true) else (if 0 < (a0.size : Int) then ((surmiseref04_letter.f (bt a0 0)).bind fun t431 => (surmiseref04_Name.j0 k a0 (!t431))) else (none))))))) = some r := h
 clear h
 have HC2 := Am H
 clear H
 go_enter Try.func32, Try.ntmps32
 go_upto_region 1 with (fail)
 go_cut [29] (fun v29 wc => ∃ (kq : Nat) (x29_1 : Bool), v29 = .bool x29_1 ∧ Aside0 (surmiseref04_Name.j0 kq a0 x29_1 = some r) ∧ Aside0 (kq ≤ k) ∧ Drawn0 w wc)
 case first =>
  have H := HC2.out
  clear HC2
  by_cases c3 : (a0.size : Int) = 0
  ·
   rw [if_pos c3] at H
   have c3b0 : ((a0.size : Int) == 0) = true := beq_iff_eq.mpr c3
   have c3b1 : ((a0.size : Int) != 0) = false := bne_eq_false_iff_eq.mpr c3
   clear c3
   (first | rw [c3b0] | (simp only [i64_w, i32_w]; rw [c3b0]) | skip)
   have H' := Am H
   clear H
   go_wp2
   go_meet
   case rel => exact ⟨_, (true), rq, H', ⟨by first | omega | exact Nat.le_refl _⟩, by repeat (first | exact Drawn0.refl _ | apply Drawn0.step)⟩
  ·
   rw [if_neg c3] at H
   have c3b0 : ((a0.size : Int) == 0) = false := beq_eq_false_iff_ne.mpr c3
   have c3b1 : ((a0.size : Int) != 0) = true := bne_iff_ne.mpr c3
   (first | rw [c3b0] | (simp only [i64_w, i32_w]; rw [c3b0]) | skip)
   by_cases c4 : (a0.size : Int) > 24
   ·
    rw [if_pos c4] at H
    have c4b0 : decide (24 < (a0.size : Int)) = true := decide_eq_true c4
    have c4b1 : decide (24 < a0.size) = true := decide_eq_true (by omega)
    clear c4
    have H' := Am H
    clear H
    go_wp2
    go_meet
    case rel => exact ⟨_, (true), rq, H', ⟨by first | omega | exact Nat.le_refl _⟩, by repeat (first | exact Drawn0.refl _ | apply Drawn0.step)⟩
   ·
    rw [if_neg c4] at H
    have c4b0 : decide (24 < (a0.size : Int)) = false := decide_eq_false c4
    have c4b1 : decide (24 < a0.size) = false := decide_eq_false (by omega)
    clear c4
    by_cases c5 : a0.toList = ([109, 105, 110] : List UInt8)
    ·
     rw [if_pos c5] at H
     have c5b0 : (a0.toList == ([109, 105, 110] : List UInt8)) = true := beq_iff_eq.mpr c5
     have c5b1 : (a0.toList != ([109, 105, 110] : List UInt8)) = false := bne_eq_false_iff_eq.mpr c5
     clear c5
     have H' := Am H
     clear H
     go_wp2
     go_meet
     case rel => exact ⟨_, (true), rq, H', ⟨by first | omega | exact Nat.le_refl _⟩, by repeat (first | exact Drawn0.refl _ | apply Drawn0.step)⟩
    ·
     rw [if_neg c5] at H
     have c5b0 : (a0.toList == ([109, 105, 110] : List UInt8)) = false := beq_eq_false_iff_ne.mpr c5
     have c5b1 : (a0.toList != ([109, 105, 110] : List UInt8)) = true := bne_iff_ne.mpr c5
     by_cases c6 : a0.toList = ([109, 97, 120] : List UInt8)
     ·
      rw [if_pos c6] at H
      have c6b0 : (a0.toList == ([109, 97, 120] : List UInt8)) = true := beq_iff_eq.mpr c6
      have c6b1 : (a0.toList != ([109, 97, 120] : List UInt8)) = false := bne_eq_false_iff_eq.mpr c6
      clear c6
      have H' := Am H
      clear H
      go_wp2
      go_meet
      case rel => exact ⟨_, (true), rq, H', ⟨by first | omega | exact Nat.le_refl _⟩, by repeat (first | exact Drawn0.refl _ | apply Drawn0.step)⟩
     ·
      rw [if_neg c6] at H
      have c6b0 : (a0.toList == ([109, 97, 120] : List UInt8)) = false := beq_eq_false_iff_ne.mpr c6
      have c6b1 : (a0.toList != ([109, 97, 120] : List UInt8)) = true := bne_iff_ne.mpr c6
      by_cases c7 : a0.toList = ([105, 102] : List UInt8)
      ·
       rw [if_pos c7] at H
       have c7b0 : (a0.toList == ([105, 102] : List UInt8)) = true := beq_iff_eq.mpr c7
       have c7b1 : (a0.toList != ([105, 102] : List UInt8)) = false := bne_eq_false_iff_eq.mpr c7
       clear c7
       have H' := Am H
       clear H
       go_wp2
       go_meet
       case rel => exact ⟨_, (true), rq, H', ⟨by first | omega | exact Nat.le_refl _⟩, by repeat (first | exact Drawn0.refl _ | apply Drawn0.step)⟩
      ·
       rw [if_neg c7] at H
       have c7b0 : (a0.toList == ([105, 102] : List UInt8)) = false := beq_eq_false_iff_ne.mpr c7
       have c7b1 : (a0.toList != ([105, 102] : List UInt8)) = true := bne_iff_ne.mpr c7
       by_cases c8 : 0 < (a0.size : Int)
       ·
        rw [if_pos c8] at H
        have c8b0 : decide (0 < (a0.size : Int)) = true := decide_eq_true c8
        have c8b1 : decide (0 < a0.size) = true := decide_eq_true (by omega)
        clear c8
        obtain ⟨t431, A100, H⟩ := Option.bind_eq_some_iff.mp H
        replace H : (surmiseref04_Name.j0 k a0 (!t431)) = some r := H
        have A10 := Am A100
        clear A100
        have H' := Am H
        clear H
        have p9 : 0 ≤ (0 : Int) := (by omega)
        have q9 : 0 < a0.size := (by have : (0 : Int) < (a0.size : Int) := of_decide_eq_true az; omega)
        have hx9 : ∀ h : 0 < a0.size, ((a0[0]'h).toNat : Int) = bt a0 0 := bt_at a0 0
        clear p9
        have qi9 : (0 < (a0.size : Int)) = True := eq_true (of_decide_eq_true az)
        replace q9 := eq_true q9
        go_wp2_with (first | (go_at_call 51; (with_reducible refine (surmiseref04_letter.calls (bt a0 0) t431 _ A10.out).mono ?_); rintro e w' ⟨rfl, ⟨nd, rfl⟩⟩))
        go_meet
        case rel => exact ⟨_, (!t431), rq, H', ⟨by first | omega | exact Nat.le_refl _⟩, by repeat (first | exact Drawn0.refl _ | apply Drawn0.step)⟩
       ·
        rw [if_neg c8] at H
        exact absurd H (by simp)
 case rest =>
  clear HC2
  try clear p2
  try clear c3
  try clear c3b0
  try clear c3b1
  try clear c4
  try clear c4b0
  try clear c4b1
  try clear c5
  try clear c5b0
  try clear c5b1
  try clear c6
  try clear c6b0
  try clear c6b1
  try clear c7
  try clear c7b0
  try clear c7b1
  try clear c8
  try clear c8b0
  try clear c8b1
  try clear p9
  try clear q9
  try clear hx9
  try clear qi9
  try clear p9
  try clear q9
  obtain ⟨kq, x29_1, rfl, HA, HJ1, ⟨mc1, rfl⟩⟩ := hcut
  cases kq with
  | zero => exact absurd HA.out (by simp [surmiseref04_Name.j0])
  | succ kj1 =>
   have H := HA.out
   clear HA
   simp only [surmiseref04_Name.j0] at H
   by_cases c11 : x29_1 = true
   ·
    subst c11
    have H1 : (some false) = some r := by rw [if_pos rfl] at H; exact H
    clear H
    have H := H1
    clear H1
    obtain rfl := Option.some.inj H
    go_wp2
    go_ret
    exact ⟨by first | rfl | (simp; done) | (simp [*]; done), by repeat (first | exact Drawn0.refl _ | apply Drawn0.step)⟩
   ·
    replace c11 := Bool.eq_false_iff.mpr c11
    subst c11
    have H1 : (surmiseref04_Name.l0 kj1 a0 0) = some r := by rw [if_neg (show ¬ (false = true) by decide)] at H; exact H
    clear H
    have H := H1
    clear H1
    have H' := Am H
    clear H
    go_wp2
    go_loopg [3] kj1 (fun kq v3 w' => ∃ (x3_2 : Int), v3 = .int .i64 x3_2 ∧ Aside0 (surmiseref04_Name.l0 kq a0 x3_2 = some r) ∧ Aside0 (kq ≤ kj1) ∧ Drawn0 w w')
    case atStart => exact ⟨(0), rq, H', ⟨Nat.le_refl _⟩, by repeat (first | exact Drawn0.refl _ | apply Drawn0.step)⟩
    case round =>
     clear H'
     try clear c1
     try clear p2
     try clear c3
     try clear c3b0
     try clear c3b1
     try clear c4
     try clear c4b0
     try clear c4b1
     try clear c5
     try clear c5b0
     try clear c5b1
     try clear c6
     try clear c6b0
     try clear c6b1
     try clear c7
     try clear c7b0
     try clear c7b1
     try clear c8
     try clear c8b0
     try clear c8b1
     try clear p9
     try clear q9
     try clear hx9
     try clear qi9
     try clear c11
     try clear p2
     try clear p9
     try clear q9
     obtain ⟨x3_2, rfl, HA, HK2, ⟨m2, rfl⟩⟩ := hrel
     cases gk with
     | zero => exact absurd HA.out (by simp [surmiseref04_Name.l0])
     | succ k2 =>
      have H := HA.out
      clear HA
      simp only [surmiseref04_Name.l0] at H
      by_cases c12 : x3_2 < (a0.size : Int)
      ·
       rw [if_pos c12] at H
       have c12b0 : decide (x3_2 < (a0.size : Int)) = true := decide_eq_true c12
       clear c12
       by_cases c13 : 0 ≤ x3_2
       ·
        rw [if_pos c13] at H
        have c13b0 : decide (0 ≤ x3_2) = true := decide_eq_true c13
        clear c13
        obtain ⟨t432, A150, H⟩ := Option.bind_eq_some_iff.mp H
        try dsimp only at H
        have A15 := Am A150
        clear A150
        by_cases c16 : t432 = true
        ·
         subst c16
         have H1 : (surmiseref04_Name.l0 k2 a0 (wrap64 (x3_2 + 1))) = some r := by rw [if_pos rfl] at H; exact H
         clear H
         have H := H1
         clear H1
         have H' := Am H
         clear H
         have p14 : 0 ≤ (x3_2 : Int) := of_decide_eq_true az
         have q14 : x3_2 < (a0.size : Int) := of_decide_eq_true az
         have hx14 := bt_at a0 x3_2
         replace p14 := eq_true p14
         replace q14 := eq_true q14
         go_wp2_with (first | ((with_reducible refine gate_callee (f := 51) rfl ?_); refine goesL_ (some 39) rfl rfl Try.func51 (by kernel_rfl) rfl #[.int .u8 (bt a0 x3_2)] rfl aq ?_; (with_reducible refine (surmiseref04_letter.calls (bt a0 x3_2) true _ A15.out).mono ?_); rintro e w' ⟨rfl, ⟨nd, rfl⟩⟩; refine ⟨_, rfl, ?_⟩))
         go_roundg k2
         case measure => have := HJ1.out; have := HK2.out; omega
         case rel => exact ⟨(wrap64 (x3_2 + 1)), rq, H', ⟨by have := HJ1.out; have := HK2.out; omega⟩, by repeat (first | exact Drawn0.refl _ | apply Drawn0.step)⟩
        ·
         replace c16 := Bool.eq_false_iff.mpr c16
         subst c16
         have H1 : ((surmiseref04_digit.f (bt a0 x3_2)).bind fun t433 => (if t433 = true then (surmiseref04_Name.l0 k2 a0 (wrap64 (x3_2 + 1))) else (if (bt a0 x3_2) = 95 then (surmiseref04_Name.l0 k2 a0 (wrap64 (x3_2 + 1))) else (some false)))) = some r := by rw [if_neg (show ¬ (false = true) by decide)] at H; exact H
         clear H
         have H := H1
         clear H1
         obtain ⟨t433, A180, H⟩ := Option.bind_eq_some_iff.mp H
         replace H : (if t433 = true then (surmiseref04_Name.l0 k2 a0 (wrap64 (x3_2 + 1))) else (if (bt a0 x3_2) = 95 then (surmiseref04_Name.l0 k2 a0 (wrap64 (x3_2 + 1))) else (some false))) = some r := H
         have A18 := Am A180
         clear A180
         by_cases c19 : t433 = true
         ·
          subst c19
          have H1 : (surmiseref04_Name.l0 k2 a0 (wrap64 (x3_2 + 1))) = some r := by rw [if_pos rfl] at H; exact H
          clear H
          have H := H1
          clear H1
          have H' := Am H
          clear H
          have p14 : 0 ≤ (x3_2 : Int) := of_decide_eq_true az
          have q14 : x3_2 < (a0.size : Int) := of_decide_eq_true az
          have hx14 := bt_at a0 x3_2
          replace p14 := eq_true p14
          replace q14 := eq_true q14
          go_wp2_with (first | ((with_reducible refine gate_callee (f := 51) rfl ?_); refine goesL_ (some 39) rfl rfl Try.func51 (by kernel_rfl) rfl #[.int .u8 (bt a0 x3_2)] rfl aq ?_; (with_reducible refine (surmiseref04_letter.calls (bt a0 x3_2) false _ A15.out).mono ?_); rintro e w' ⟨rfl, ⟨nd, rfl⟩⟩; refine ⟨_, rfl, ?_⟩; have p17 : 0 ≤ (x3_2 : Int) := of_decide_eq_true az; have q17 : x3_2 < (a0.size : Int) := of_decide_eq_true az; have hx17 := bt_at a0 x3_2; replace p17 := eq_true p17; replace q17 := eq_true q17) | (go_at_call 52; (with_reducible refine (surmiseref04_digit.calls (bt a0 x3_2) true _ A18.out).mono ?_); rintro e w' ⟨rfl, ⟨nd, rfl⟩⟩))
          go_roundg k2
          case measure => have := HJ1.out; have := HK2.out; omega
          case rel => exact ⟨(wrap64 (x3_2 + 1)), rq, H', ⟨by have := HJ1.out; have := HK2.out; omega⟩, by repeat (first | exact Drawn0.refl _ | apply Drawn0.step)⟩
         ·
          replace c19 := Bool.eq_false_iff.mpr c19
          subst c19
          have H1 : (if (bt a0 x3_2) = 95 then (surmiseref04_Name.l0 k2 a0 (wrap64 (x3_2 + 1))) else (some false)) = some r := by rw [if_neg (show ¬ (false = true) by decide)] at H; exact H
          clear H
          have H := H1
          clear H1
          by_cases c21 : (bt a0 x3_2) = 95
          ·
           rw [if_pos c21] at H
           have c21b0 : ((bt a0 x3_2) == 95) = true := beq_iff_eq.mpr c21
           have c21b1 : ((bt a0 x3_2) != 95) = false := bne_eq_false_iff_eq.mpr c21
           clear c21
           have H' := Am H
           clear H
           have p14 : 0 ≤ (x3_2 : Int) := of_decide_eq_true az
           have q14 : x3_2 < (a0.size : Int) := of_decide_eq_true az
           have hx14 := bt_at a0 x3_2
           replace p14 := eq_true p14
           replace q14 := eq_true q14
           go_wp2_with (first | ((with_reducible refine gate_callee (f := 51) rfl ?_); refine goesL_ (some 39) rfl rfl Try.func51 (by kernel_rfl) rfl #[.int .u8 (bt a0 x3_2)] rfl aq ?_; (with_reducible refine (surmiseref04_letter.calls (bt a0 x3_2) false _ A15.out).mono ?_); rintro e w' ⟨rfl, ⟨nd, rfl⟩⟩; refine ⟨_, rfl, ?_⟩; have p17 : 0 ≤ (x3_2 : Int) := of_decide_eq_true az; have q17 : x3_2 < (a0.size : Int) := of_decide_eq_true az; have hx17 := bt_at a0 x3_2; replace p17 := eq_true p17; replace q17 := eq_true q17) | (go_at_call 52; (with_reducible refine (surmiseref04_digit.calls (bt a0 x3_2) false _ A18.out).mono ?_); rintro e w' ⟨rfl, ⟨nd, rfl⟩⟩; have p20 : 0 ≤ (x3_2 : Int) := of_decide_eq_true az; have q20 : x3_2 < (a0.size : Int) := of_decide_eq_true az; have hx20 := bt_at a0 x3_2; replace p20 := eq_true p20; replace q20 := eq_true q20))
           go_roundg k2
           case measure => have := HJ1.out; have := HK2.out; omega
           case rel => exact ⟨(wrap64 (x3_2 + 1)), rq, H', ⟨by have := HJ1.out; have := HK2.out; omega⟩, by repeat (first | exact Drawn0.refl _ | apply Drawn0.step)⟩
          ·
           rw [if_neg c21] at H
           have c21b0 : ((bt a0 x3_2) == 95) = false := beq_eq_false_iff_ne.mpr c21
           have c21b1 : ((bt a0 x3_2) != 95) = true := bne_iff_ne.mpr c21
           obtain rfl := Option.some.inj H
           have p14 : 0 ≤ (x3_2 : Int) := of_decide_eq_true az
           have q14 : x3_2 < (a0.size : Int) := of_decide_eq_true az
           have hx14 := bt_at a0 x3_2
           replace p14 := eq_true p14
           replace q14 := eq_true q14
           go_wp2_with (first | ((with_reducible refine gate_callee (f := 51) rfl ?_); refine goesL_ (some 39) rfl rfl Try.func51 (by kernel_rfl) rfl #[.int .u8 (bt a0 x3_2)] rfl aq ?_; (with_reducible refine (surmiseref04_letter.calls (bt a0 x3_2) false _ A15.out).mono ?_); rintro e w' ⟨rfl, ⟨nd, rfl⟩⟩; refine ⟨_, rfl, ?_⟩; have p17 : 0 ≤ (x3_2 : Int) := of_decide_eq_true az; have q17 : x3_2 < (a0.size : Int) := of_decide_eq_true az; have hx17 := bt_at a0 x3_2; replace p17 := eq_true p17; replace q17 := eq_true q17) | (go_at_call 52; (with_reducible refine (surmiseref04_digit.calls (bt a0 x3_2) false _ A18.out).mono ?_); rintro e w' ⟨rfl, ⟨nd, rfl⟩⟩; have p20 : 0 ≤ (x3_2 : Int) := of_decide_eq_true az; have q20 : x3_2 < (a0.size : Int) := of_decide_eq_true az; have hx20 := bt_at a0 x3_2; replace p20 := eq_true p20; replace q20 := eq_true q20))
           go_ret
           exact ⟨by first | rfl | (simp; done) | (simp [*]; done), by repeat (first | exact Drawn0.refl _ | apply Drawn0.step)⟩
       ·
        rw [if_neg c13] at H
        exact absurd H (by simp)
      ·
       rw [if_neg c12] at H
       have c12b0 : decide (x3_2 < (a0.size : Int)) = false := decide_eq_false c12
       clear c12
       obtain rfl := Option.some.inj H
       go_wp2
       go_ret
       exact ⟨by first | rfl | (simp; done) | (simp [*]; done), by repeat (first | exact Drawn0.refl _ | apply Drawn0.step)⟩

/-! ### surmiseref05_Names: function 30 -/
mutual
def surmiseref05_Names.l0 : Nat → List ByteArray → Int → Option (Int × Int)
 | 0, _, _ => none
 | k + 1, x0, x5 => if x5 < (x0.length : Int) then (if 0 ≤ x5 then ((surmiseref04_Name.f k (rdOf ByteArray.empty x0 x5)).bind fun t436 => (if t436 = true then (surmiseref05_Names.l1 k x0 x5 0) else (some (x5, 6)))) else (none)) else (some (0, 0))
def surmiseref05_Names.l1 : Nat → List ByteArray → Int → Int → Option (Int × Int)
 | 0, _, _, _ => none
 | k + 1, x0, x5, x6 => if x6 < x5 then (if 0 ≤ x6 then (if x6 < (x0.length : Int) then (if 0 ≤ x5 then (if x5 < (x0.length : Int) then (if (rdOf ByteArray.empty x0 x6).toList = (rdOf ByteArray.empty x0 x5).toList then (some (x5, 9)) else (surmiseref05_Names.l1 k x0 x5 (wrap64 (x6 + 1)))) else (none)) else (none)) else (none)) else (none)) else (surmiseref05_Names.l0 k x0 (wrap64 (x5 + 1)))
end
def surmiseref05_Names.f (k : Nat) (l0 : List ByteArray) (a1 : Int) : Option (Int × Int) := if (l0.length : Int) > a1 then (some (0, 4)) else (surmiseref05_Names.l0 k l0 0)
theorem surmiseref05_Names.mono_l : ∀ k, (∀ y0 y1, LeO (surmiseref05_Names.l0 k y0 y1) (surmiseref05_Names.l0 (k + 1) y0 y1)) ∧ (∀ y0 y1 y2, LeO (surmiseref05_Names.l1 k y0 y1 y2) (surmiseref05_Names.l1 (k + 1) y0 y1 y2))
 | 0 => ⟨fun _ _ r h => by simp [surmiseref05_Names.l0] at h, fun _ _ _ r h => by simp [surmiseref05_Names.l1] at h⟩
 | k + 1 => by
  obtain ⟨ih0, ih1⟩ := surmiseref05_Names.mono_l k
  refine ⟨?_, ?_⟩
  ·
   intro y0 y1
   unfold surmiseref05_Names.l0
   repeat' first
   | (with_reducible exact ih0 _ _)
   | (with_reducible exact ih1 _ _ _)
   | (with_reducible exact surmiseref04_Name.mono _ _)
   | (with_reducible exact LeO.refl _)
   | (with_reducible exact LeO.none _)
   | (with_reducible refine LeO.ite ?_ ?_)
   | (with_reducible refine LeO.bind ?_ (fun _ => ?_))
   | exact ih0 _ _
   | exact ih1 _ _ _
   | exact surmiseref04_Name.mono _ _
   | exact LeO.none _
   | refine LeO.ite ?_ ?_
   | refine LeO.bind ?_ (fun _ => ?_)
  ·
   intro y0 y1 y2
   unfold surmiseref05_Names.l1
   repeat' first
   | (with_reducible exact ih0 _ _)
   | (with_reducible exact ih1 _ _ _)
   | (with_reducible exact surmiseref04_Name.mono _ _)
   | (with_reducible exact LeO.refl _)
   | (with_reducible exact LeO.none _)
   | (with_reducible refine LeO.ite ?_ ?_)
   | (with_reducible refine LeO.bind ?_ (fun _ => ?_))
   | exact ih0 _ _
   | exact ih1 _ _ _
   | exact surmiseref04_Name.mono _ _
   | exact LeO.none _
   | refine LeO.ite ?_ ?_
   | refine LeO.bind ?_ (fun _ => ?_)
theorem surmiseref05_Names.mono : ∀ a0 a1 k, LeO (surmiseref05_Names.f k a0 a1) (surmiseref05_Names.f (k + 1) a0 a1) := by
 intro a0 a1 k
 obtain ⟨ih0, ih1⟩ := surmiseref05_Names.mono_l k
 unfold surmiseref05_Names.f
 repeat' first
   | (with_reducible exact ih0 _ _)
   | (with_reducible exact ih1 _ _ _)
   | (with_reducible exact surmiseref04_Name.mono _ _)
   | (with_reducible exact LeO.refl _)
   | (with_reducible exact LeO.none _)
   | (with_reducible refine LeO.ite ?_ ?_)
   | (with_reducible refine LeO.bind ?_ (fun _ => ?_))
   | exact ih0 _ _
   | exact ih1 _ _ _
   | exact surmiseref04_Name.mono _ _
   | exact LeO.none _
   | refine LeO.ite ?_ ?_
   | refine LeO.bind ?_ (fun _ => ?_)
set_option maxHeartbeats 8000000 in
set_option maxRecDepth 100000 in
theorem surmiseref05_Names.calls (k : Nat) (A0 : Option Addr) (c0 : Nat) (l0 : List ByteArray) (a1 : Int) (r1 : Int) (r2 : Int) (w : World) (hr0 : Kd.C Kd.string w A0 l0.length l0) (hc0 : l0.length ≤ c0) (h : surmiseref05_Names.f k l0 a1 = some (r1, r2)) :
  Calls Try.prog 30 #[.slice A0 l0.length c0, .int .i64 a1] w fun e w' => e = .returned (.agg #[.int .i64 r1, .int .i64 r2]) ∧ Below w.heap.size w w' := by
 have hu54 := Try.underlying54
 have HR0 := Am hr0
 have HC0 := Am hc0
 clear hr0 hc0
 have HB := Am (Below.refl w.heap.size w)
 have H : (if (l0.length : Int) > a1 then (some (0, 4)) else (surmiseref05_Names.l0 k l0 0)) = some (r1, r2) := h
 clear h
 by_cases c3 : (l0.length : Int) > a1
 ·
  rw [if_pos c3] at H
  have c3b0 : decide (a1 < (l0.length : Int)) = true := decide_eq_true c3
  clear c3
  simp only [Option.some.injEq, Prod.mk.injEq] at H
  obtain ⟨rfl, rfl⟩ := H
  go_enter Try.func30, Try.ntmps30
  go_wp2_with (first | ((with_reducible refine gate_dst (N := 4) rfl ?_); refine bxe (N := 4) (cs := #[.int .i64 0, .int .i64 0]) (t := 54) ?_; intro gb434 hg w4 hbox hb; have n0_ := Am (below_step (bl) hb); have n1_ := Am (hbox); have n2_ := Am ((gE hg : w.heap.size ≤ gb434)); have n3_ := Am ((gE hg : w.heap.size ≤ gb434)); clear HB; have HB := n0_; have BK434 := n1_; have GW434 := n2_; have GE434 := n3_; clear n0_ n1_ n2_ n3_; clear hb hbox hg; have hcz5_0 := cz0 BK434.out; have hcz5_1 := cz1 BK434.out; have hfz5_0 := fz BK434 0; have hfz5_1 := fz BK434 1))
  repeat (go_quiet (first | ((with_reducible refine gate_dst (N := 4) rfl ?_); refine bxe (N := 4) (cs := #[.int .i64 0, .int .i64 0]) (t := 54) ?_; intro gb434 hg w4 hbox hb; have n0_ := Am (below_step (bl) hb); have n1_ := Am (hbox); have n2_ := Am ((gE hg : w.heap.size ≤ gb434)); have n3_ := Am ((gE hg : w.heap.size ≤ gb434)); clear HB; have HB := n0_; have BK434 := n1_; have GW434 := n2_; have GE434 := n3_; clear n0_ n1_ n2_ n3_; clear hb hbox hg; have hcz5_0 := cz0 BK434.out; have hcz5_1 := cz1 BK434.out; have hfz5_0 := fz BK434 0; have hfz5_1 := fz BK434 1)); try go_wp2_with (first | ((with_reducible refine gate_dst (N := 4) rfl ?_); refine bxe (N := 4) (cs := #[.int .i64 0, .int .i64 0]) (t := 54) ?_; intro gb434 hg w4 hbox hb; have n0_ := Am (below_step (bl) hb); have n1_ := Am (hbox); have n2_ := Am ((gE hg : w.heap.size ≤ gb434)); have n3_ := Am ((gE hg : w.heap.size ≤ gb434)); clear HB; have HB := n0_; have BK434 := n1_; have GW434 := n2_; have GE434 := n3_; clear n0_ n1_ n2_ n3_; clear hb hbox hg; have hcz5_0 := cz0 BK434.out; have hcz5_1 := cz1 BK434.out; have hfz5_0 := fz BK434 0; have hfz5_1 := fz BK434 1)))
  refine bodyPost_ret (results_cell_row rfl _ _ gb434 54 #[.int .i64 0, .int .i64 4] (0, 0) _ rfl (by (with_reducible repeat (first | refine blk_drewN ?_ _ | refine blk_drew ?_ | refine blk_alloc ?_ _)); refine blk_put (cs := #[.int .i64 0, .int .i64 0]) ?_ 1 _ rfl; (with_reducible repeat (first | refine blk_drewN ?_ _ | refine blk_drew ?_ | refine blk_alloc ?_ _)); refine blk_put (cs := #[.int .i64 0, .int .i64 0]) ?_ 0 _ rfl; (with_reducible repeat (first | refine blk_drewN ?_ _ | refine blk_drew ?_ | refine blk_alloc ?_ _)); exact BK434.out) Try.underlying54 rfl (by kernel_rfl)) rfl ?_
  exact ⟨xq, bs⟩
 ·
  rw [if_neg c3] at H
  have c3b0 : decide (a1 < (l0.length : Int)) = false := decide_eq_false c3
  clear c3
  have H' := Am H
  clear H
  go_enter Try.func30, Try.ntmps30
  go_wp2_with (first | ((with_reducible refine gate_dst (N := 4) rfl ?_); refine bxe (N := 4) (cs := #[.int .i64 0, .int .i64 0]) (t := 54) ?_; intro gb434 hg w6 hbox hb; have n0_ := Am (below_step (bl) hb); have n1_ := Am (hbox); have n2_ := Am ((gE hg : w.heap.size ≤ gb434)); have n3_ := Am ((gE hg : w.heap.size ≤ gb434)); clear HB; have HB := n0_; have BK434 := n1_; have GW434 := n2_; have GE434 := n3_; clear n0_ n1_ n2_ n3_; clear hb hbox hg))
  repeat (go_quiet (first | ((with_reducible refine gate_dst (N := 4) rfl ?_); refine bxe (N := 4) (cs := #[.int .i64 0, .int .i64 0]) (t := 54) ?_; intro gb434 hg w6 hbox hb; have n0_ := Am (below_step (bl) hb); have n1_ := Am (hbox); have n2_ := Am ((gE hg : w.heap.size ≤ gb434)); have n3_ := Am ((gE hg : w.heap.size ≤ gb434)); clear HB; have HB := n0_; have BK434 := n1_; have GW434 := n2_; have GE434 := n3_; clear n0_ n1_ n2_ n3_; clear hb hbox hg)); try go_wp2_with (first | ((with_reducible refine gate_dst (N := 4) rfl ?_); refine bxe (N := 4) (cs := #[.int .i64 0, .int .i64 0]) (t := 54) ?_; intro gb434 hg w6 hbox hb; have n0_ := Am (below_step (bl) hb); have n1_ := Am (hbox); have n2_ := Am ((gE hg : w.heap.size ≤ gb434)); have n3_ := Am ((gE hg : w.heap.size ≤ gb434)); clear HB; have HB := n0_; have BK434 := n1_; have GW434 := n2_; have GE434 := n3_; clear n0_ n1_ n2_ n3_; clear hb hbox hg)))
  go_loopg [5] k (fun kq v5 w' => ∃ (x5_1 : Int) (x435000_1 : Int) (x435001_1 : Int), v5 = .int .i64 x5_1 ∧ Aside0 (surmiseref05_Names.l0 kq l0 x5_1 = some (r1, r2)) ∧ Aside0 (kq ≤ k) ∧ Aside0 (w'.heap[gb434]? = some (.cells #[.int .i64 x435000_1, .int .i64 x435001_1] 54 (0, 0))) ∧ Aside0 (Below w.heap.size w w'))
  case atStart => exact ⟨(0), (0), (0), rq, H', ⟨Nat.le_refl _⟩, ⟨kB BK434⟩, ⟨bs⟩⟩
  case round =>
   clear H'
   try clear p2
   try clear c3
   try clear c3b0
   try clear hcz5_0
   try clear hcz5_1
   try clear hfz5_0
   try clear hfz5_1
   obtain ⟨x5_1, x435000_1, x435001_1, rfl, HA, HK1, BK434, HB⟩ := hrel
   cases gk with
   | zero => exact absurd HA.out (by simp [surmiseref05_Names.l0])
   | succ k1 =>
    have H := HA.out
    clear HA
    simp only [surmiseref05_Names.l0] at H
    by_cases c7 : x5_1 < (l0.length : Int)
    ·
     rw [if_pos c7] at H
     have c7b0 : decide (x5_1 < (l0.length : Int)) = true := decide_eq_true c7
     clear c7
     by_cases c8 : 0 ≤ x5_1
     ·
      rw [if_pos c8] at H
      have c8b0 : decide (0 ≤ x5_1) = true := decide_eq_true c8
      clear c8
      obtain ⟨t436, A90, H⟩ := Option.bind_eq_some_iff.mp H
      replace H : (if t436 = true then (surmiseref05_Names.l1 k1 l0 x5_1 0) else (some (x5_1, 6))) = some (r1, r2) := H
      have A9 := Am A90
      clear A90
      by_cases c10 : t436 = true
      ·
       subst c10
       have H1 : (surmiseref05_Names.l1 k1 l0 x5_1 0) = some (r1, r2) := by rw [if_pos rfl] at H; exact H
       clear H
       have H := H1
       clear H1
       have H' := Am H
       clear H
       have p435 : 0 ≤ (x5_1 : Int) := of_decide_eq_true az
       have q435 : x5_1 < (l0.length : Int) := of_decide_eq_true az
       obtain ⟨ad435, e435, hx435_0⟩ := Kd.at_string HR0.out x5_1 p435 q435
       cases e435
       replace hx435_0 := hX HB hx435_0
       replace p435 := eq_true p435
       replace q435 := eq_true q435
       go_wp2_with (first | (go_at_call 32; (with_reducible refine (surmiseref04_Name.calls k1 (rdOf ByteArray.empty l0 x5_1) true _ A9.out).mono ?_); rintro e w' ⟨rfl, ⟨nd, rfl⟩⟩; (try first | exact ⟨rfl, _, World.drewN_drewN _ _ _⟩ | exact ⟨rfl, _, Eq.trans (World.drewN_drewN _ _ _) (congrArg (World.drewN _) (Nat.add_assoc _ _ _))⟩)))
       repeat (go_quiet (first | (go_at_call 32; (with_reducible refine (surmiseref04_Name.calls k1 (rdOf ByteArray.empty l0 x5_1) true _ A9.out).mono ?_); rintro e w' ⟨rfl, ⟨nd, rfl⟩⟩; (try first | exact ⟨rfl, _, World.drewN_drewN _ _ _⟩ | exact ⟨rfl, _, Eq.trans (World.drewN_drewN _ _ _) (congrArg (World.drewN _) (Nat.add_assoc _ _ _))⟩))); try go_wp2_with (first | (go_at_call 32; (with_reducible refine (surmiseref04_Name.calls k1 (rdOf ByteArray.empty l0 x5_1) true _ A9.out).mono ?_); rintro e w' ⟨rfl, ⟨nd, rfl⟩⟩; (try first | exact ⟨rfl, _, World.drewN_drewN _ _ _⟩ | exact ⟨rfl, _, Eq.trans (World.drewN_drewN _ _ _) (congrArg (World.drewN _) (Nat.add_assoc _ _ _))⟩))))
       go_loopg [6] k1 (fun kq v6 w' => ∃ (x6_2 : Int) (x435000_2 : Int) (x435001_2 : Int), v6 = .int .i64 x6_2 ∧ Aside0 (surmiseref05_Names.l1 kq l0 x5_1 x6_2 = some (r1, r2)) ∧ Aside0 (kq ≤ k1) ∧ Aside0 (w'.heap[gb434]? = some (.cells #[.int .i64 x435000_2, .int .i64 x435001_2] 54 (0, 0))) ∧ Aside0 (Below w.heap.size w w'))
       case atStart => exact ⟨(0), (x435000_1), (x435001_1), rq, H', ⟨Nat.le_refl _⟩, ⟨kB BK434⟩, ⟨bs⟩⟩
       case round =>
        clear H'
        try clear c1
        try clear p2
        try clear c3
        try clear c3b0
        try clear p4
        try clear q4
        try clear hx4
        try clear c7
        try clear c7b0
        try clear c8
        try clear c8b0
        try clear c10
        try clear hcz5_0
        try clear hcz5_1
        try clear hfz5_0
        try clear hfz5_1
        try clear hx435_0
        try clear p2
        try clear p435
        try clear q435
        obtain ⟨x6_2, x435000_2, x435001_2, rfl, HA, HK2, BK434, HB⟩ := hrel
        cases gk with
        | zero => exact absurd HA.out (by simp [surmiseref05_Names.l1])
        | succ k2 =>
         have H := HA.out
         clear HA
         simp only [surmiseref05_Names.l1] at H
         by_cases c11 : x6_2 < x5_1
         ·
          rw [if_pos c11] at H
          have c11b0 : decide (x6_2 < x5_1) = true := decide_eq_true c11
          clear c11
          by_cases c12 : 0 ≤ x6_2
          ·
           rw [if_pos c12] at H
           have c12b0 : decide (0 ≤ x6_2) = true := decide_eq_true c12
           clear c12
           by_cases c13 : x6_2 < (l0.length : Int)
           ·
            rw [if_pos c13] at H
            have c13b0 : decide (x6_2 < (l0.length : Int)) = true := decide_eq_true c13
            clear c13
            by_cases c14 : 0 ≤ x5_1
            ·
             rw [if_pos c14] at H
             have c14b0 : decide (0 ≤ x5_1) = true := decide_eq_true c14
             clear c14
             by_cases c15 : x5_1 < (l0.length : Int)
             ·
              rw [if_pos c15] at H
              have c15b0 : decide (x5_1 < (l0.length : Int)) = true := decide_eq_true c15
              clear c15
              by_cases c16 : (rdOf ByteArray.empty l0 x6_2).toList = (rdOf ByteArray.empty l0 x5_1).toList
              ·
               rw [if_pos c16] at H
               have c16b0 : ((rdOf ByteArray.empty l0 x6_2).toList == (rdOf ByteArray.empty l0 x5_1).toList) = true := beq_iff_eq.mpr c16
               have c16b1 : ((rdOf ByteArray.empty l0 x6_2).toList != (rdOf ByteArray.empty l0 x5_1).toList) = false := bne_eq_false_iff_eq.mpr c16
               clear c16
               simp only [Option.some.injEq, Prod.mk.injEq] at H
               obtain ⟨rfl, rfl⟩ := H
               have p437 : 0 ≤ (x6_2 : Int) := of_decide_eq_true az
               have q437 : x6_2 < (l0.length : Int) := of_decide_eq_true az
               obtain ⟨ad437, e437, hx437_0⟩ := Kd.at_string HR0.out x6_2 p437 q437
               obtain rfl : ad435 = ad437 := (by injection e437)
               replace hx437_0 := hX HB hx437_0
               replace p437 := eq_true p437
               replace q437 := eq_true q437
               have p438 : 0 ≤ (x5_1 : Int) := of_decide_eq_true az
               have q438 : x5_1 < (l0.length : Int) := of_decide_eq_true az
               obtain ⟨ad438, e438, hx438_0⟩ := Kd.at_string HR0.out x5_1 p438 q438
               obtain rfl : ad435 = ad438 := (by injection e438)
               replace hx438_0 := hX HB hx438_0
               replace p438 := eq_true p438
               replace q438 := eq_true q438
               have hcz17_0 := cz0 BK434.out
               have hcz17_1 := cz1 BK434.out
               have hfz17_0 := fz BK434 0
               have hfz17_1 := fz BK434 1
               go_wp2
               repeat (go_quiet (fail); try go_wp2)
               refine bodyPost_ret (results_cell_row rfl _ _ gb434 54 #[.int .i64 x5_1, .int .i64 9] (0, 0) _ rfl (by (with_reducible repeat (first | refine blk_drewN ?_ _ | refine blk_drew ?_ | refine blk_alloc ?_ _)); refine blk_put (cs := #[.int .i64 x5_1, .int .i64 x435001_2]) ?_ 1 _ rfl; (with_reducible repeat (first | refine blk_drewN ?_ _ | refine blk_drew ?_ | refine blk_alloc ?_ _)); refine blk_put (cs := #[.int .i64 x435000_2, .int .i64 x435001_2]) ?_ 0 _ rfl; (with_reducible repeat (first | refine blk_drewN ?_ _ | refine blk_drew ?_ | refine blk_alloc ?_ _)); exact BK434.out) Try.underlying54 rfl (by kernel_rfl)) rfl ?_
               exact ⟨xq, bs⟩
              ·
               rw [if_neg c16] at H
               have c16b0 : ((rdOf ByteArray.empty l0 x6_2).toList == (rdOf ByteArray.empty l0 x5_1).toList) = false := beq_eq_false_iff_ne.mpr c16
               have c16b1 : ((rdOf ByteArray.empty l0 x6_2).toList != (rdOf ByteArray.empty l0 x5_1).toList) = true := bne_iff_ne.mpr c16
               have H' := Am H
               clear H
               have p437 : 0 ≤ (x6_2 : Int) := of_decide_eq_true az
               have q437 : x6_2 < (l0.length : Int) := of_decide_eq_true az
               obtain ⟨ad437, e437, hx437_0⟩ := Kd.at_string HR0.out x6_2 p437 q437
               obtain rfl : ad435 = ad437 := (by injection e437)
               replace hx437_0 := hX HB hx437_0
               replace p437 := eq_true p437
               replace q437 := eq_true q437
               have p438 : 0 ≤ (x5_1 : Int) := of_decide_eq_true az
               have q438 : x5_1 < (l0.length : Int) := of_decide_eq_true az
               obtain ⟨ad438, e438, hx438_0⟩ := Kd.at_string HR0.out x5_1 p438 q438
               obtain rfl : ad435 = ad438 := (by injection e438)
               replace hx438_0 := hX HB hx438_0
               replace p438 := eq_true p438
               replace q438 := eq_true q438
               go_wp2
               repeat (go_quiet (fail); try go_wp2)
               go_roundg k2
               case measure => have := HK1.out; have := HK2.out; omega
               case rel => exact ⟨(wrap64 (x6_2 + 1)), (x435000_2), (x435001_2), rq, H', ⟨by have := HK1.out; have := HK2.out; omega⟩, ⟨kB BK434⟩, ⟨bs⟩⟩
             ·
              rw [if_neg c15] at H
              exact absurd H (by simp)
            ·
             rw [if_neg c14] at H
             exact absurd H (by simp)
           ·
            rw [if_neg c13] at H
            exact absurd H (by simp)
          ·
           rw [if_neg c12] at H
           exact absurd H (by simp)
         ·
          rw [if_neg c11] at H
          have c11b0 : decide (x6_2 < x5_1) = false := decide_eq_false c11
          clear c11
          have H' := Am H
          clear H
          go_wp2
          repeat (go_quiet (fail); try go_wp2)
          go_roundg k2
          case measure => have := HK1.out; have := HK2.out; omega
          case rel => exact ⟨(wrap64 (x5_1 + 1)), (x435000_2), (x435001_2), rq, H', ⟨by have := HK1.out; have := HK2.out; omega⟩, ⟨kB BK434⟩, ⟨bs⟩⟩
      ·
       replace c10 := Bool.eq_false_iff.mpr c10
       subst c10
       have H1 : (some (x5_1, 6)) = some (r1, r2) := by rw [if_neg (show ¬ (false = true) by decide)] at H; exact H
       clear H
       have H := H1
       clear H1
       simp only [Option.some.injEq, Prod.mk.injEq] at H
       obtain ⟨rfl, rfl⟩ := H
       have p435 : 0 ≤ (x5_1 : Int) := of_decide_eq_true az
       have q435 : x5_1 < (l0.length : Int) := of_decide_eq_true az
       obtain ⟨ad435, e435, hx435_0⟩ := Kd.at_string HR0.out x5_1 p435 q435
       cases e435
       replace hx435_0 := hX HB hx435_0
       replace p435 := eq_true p435
       replace q435 := eq_true q435
       go_wp2_with (first | (go_at_call 32; (with_reducible refine (surmiseref04_Name.calls k1 (rdOf ByteArray.empty l0 x5_1) false _ A9.out).mono ?_); rintro e w' ⟨rfl, ⟨nd, rfl⟩⟩; (try first | exact ⟨rfl, _, World.drewN_drewN _ _ _⟩ | exact ⟨rfl, _, Eq.trans (World.drewN_drewN _ _ _) (congrArg (World.drewN _) (Nat.add_assoc _ _ _))⟩); have hcz18_0 := cz0 BK434.out; have hcz18_1 := cz1 BK434.out; have hfz18_0 := fz BK434 0; have hfz18_1 := fz BK434 1))
       repeat (go_quiet (first | (go_at_call 32; (with_reducible refine (surmiseref04_Name.calls k1 (rdOf ByteArray.empty l0 x5_1) false _ A9.out).mono ?_); rintro e w' ⟨rfl, ⟨nd, rfl⟩⟩; (try first | exact ⟨rfl, _, World.drewN_drewN _ _ _⟩ | exact ⟨rfl, _, Eq.trans (World.drewN_drewN _ _ _) (congrArg (World.drewN _) (Nat.add_assoc _ _ _))⟩); have hcz18_0 := cz0 BK434.out; have hcz18_1 := cz1 BK434.out; have hfz18_0 := fz BK434 0; have hfz18_1 := fz BK434 1)); try go_wp2_with (first | (go_at_call 32; (with_reducible refine (surmiseref04_Name.calls k1 (rdOf ByteArray.empty l0 x5_1) false _ A9.out).mono ?_); rintro e w' ⟨rfl, ⟨nd, rfl⟩⟩; (try first | exact ⟨rfl, _, World.drewN_drewN _ _ _⟩ | exact ⟨rfl, _, Eq.trans (World.drewN_drewN _ _ _) (congrArg (World.drewN _) (Nat.add_assoc _ _ _))⟩); have hcz18_0 := cz0 BK434.out; have hcz18_1 := cz1 BK434.out; have hfz18_0 := fz BK434 0; have hfz18_1 := fz BK434 1)))
       refine bodyPost_ret (results_cell_row rfl _ _ gb434 54 #[.int .i64 x5_1, .int .i64 6] (0, 0) _ rfl (by (with_reducible repeat (first | refine blk_drewN ?_ _ | refine blk_drew ?_ | refine blk_alloc ?_ _)); refine blk_put (cs := #[.int .i64 x5_1, .int .i64 x435001_1]) ?_ 1 _ rfl; (with_reducible repeat (first | refine blk_drewN ?_ _ | refine blk_drew ?_ | refine blk_alloc ?_ _)); refine blk_put (cs := #[.int .i64 x435000_1, .int .i64 x435001_1]) ?_ 0 _ rfl; (with_reducible repeat (first | refine blk_drewN ?_ _ | refine blk_drew ?_ | refine blk_alloc ?_ _)); exact BK434.out) Try.underlying54 rfl (by kernel_rfl)) rfl ?_
       exact ⟨xq, bs⟩
     ·
      rw [if_neg c8] at H
      exact absurd H (by simp)
    ·
     rw [if_neg c7] at H
     have c7b0 : decide (x5_1 < (l0.length : Int)) = false := decide_eq_false c7
     clear c7
     simp only [Option.some.injEq, Prod.mk.injEq] at H
     obtain ⟨rfl, rfl⟩ := H
     have hcz19_0 := cz0 BK434.out
     have hcz19_1 := cz1 BK434.out
     have hfz19_0 := fz BK434 0
     have hfz19_1 := fz BK434 1
     go_wp2
     repeat (go_quiet (fail); try go_wp2)
     refine bodyPost_ret (results_cell_row rfl _ _ gb434 54 #[.int .i64 0, .int .i64 0] (0, 0) _ rfl (by (with_reducible repeat (first | refine blk_drewN ?_ _ | refine blk_drew ?_ | refine blk_alloc ?_ _)); refine blk_put (cs := #[.int .i64 0, .int .i64 x435001_1]) ?_ 1 _ rfl; (with_reducible repeat (first | refine blk_drewN ?_ _ | refine blk_drew ?_ | refine blk_alloc ?_ _)); refine blk_put (cs := #[.int .i64 x435000_1, .int .i64 x435001_1]) ?_ 0 _ rfl; (with_reducible repeat (first | refine blk_drewN ?_ _ | refine blk_drew ?_ | refine blk_alloc ?_ _)); exact BK434.out) Try.underlying54 rfl (by kernel_rfl)) rfl ?_
     exact ⟨xq, bs⟩

/-! ### surmiseref03_Value: function 31 -/
def surmiseref03_Value.f (a0 : Int) : Option (Bool) := if a0 ≥ (-1099511627776) then (some (decide (a0 ≤ 1099511627776))) else (some false)
set_option maxHeartbeats 8000000 in
set_option maxRecDepth 100000 in
theorem surmiseref03_Value.calls (a0 : Int) (r : Bool) (w : World) (h : surmiseref03_Value.f a0 = some r) :
  Calls Try.prog 31 #[.int .i64 a0] w fun e w' => e = .returned (.bool r) ∧ Drawn0 w w' := by
 have H : (if a0 ≥ (-1099511627776) then (some (decide (a0 ≤ 1099511627776))) else (some false)) = some r := h
 clear h
 by_cases c2 : a0 ≥ (-1099511627776)
 ·
  rw [if_pos c2] at H
  have c2b0 : decide ((-1099511627776) ≤ a0) = true := decide_eq_true c2
  clear c2
  obtain rfl := Option.some.inj H
  go_enter Try.func31, Try.ntmps31
  go_wp2
  go_ret
  exact ⟨by first | rfl | (simp; done) | (simp [*]; done), by repeat (first | exact Drawn0.refl _ | apply Drawn0.step)⟩
 ·
  rw [if_neg c2] at H
  have c2b0 : decide ((-1099511627776) ≤ a0) = false := decide_eq_false c2
  clear c2
  obtain rfl := Option.some.inj H
  go_enter Try.func31, Try.ntmps31
  go_wp2
  go_ret
  exact ⟨by first | rfl | (simp; done) | (simp [*]; done), by repeat (first | exact Drawn0.refl _ | apply Drawn0.step)⟩

end Go.Proofs.Ytdfhbmallnegfaa.PA
