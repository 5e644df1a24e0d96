-- Written by a program (wip/tools/gprint.py: a patched copy of the kit's print) and by hand, for this claim
import Derived.Test.YthhnecbfcpmpbaaPAx0
import Derived.Test.YthhnecbfcpmpbaaPAx2
import Derived.Test.YthhnecbfcpmpbaaPAx3
import Derived.Test.YthhnecbfcpmpbaaPAx4
namespace Go.Proofs.Ythhnecbfcpmpbaa.PA
open Go.RowKit Go.Proofs.YthhnecbfcpmpbaaW.PrintWords Go.Proofs.YthhnecbfcpmpbaaW.PrintLast Go.Proofs.YthhnecbfcpmpbaaW.PrintMore
attribute [local go_sem] max2_int min2_int max_two min_two max_three min_three max_four min_four   -- for this text's walks alone
set_option linter.unusedVariables false
set_option linter.unusedSimpArgs false

/-! ### expr_Eval: function 11, given -/
-- GIVEN rounds
mutual
/-- What an expression's instructions make of the numbers that wait (st), from place i on. -/
def expr_Eval.l0 : Nat → List (S45) → List Int → List Int → List Int → Int → Option (Int × Int)
 | 0, _, _, _, _, _ => none
 | k + 1, l0, l1, l2, st, i =>
  if i < (l0.length : Int) then
   (if 0 ≤ i then
    (if (rd_T45 l0 i).f0 = 1 then expr_Eval.l1 k l0 l1 l2 st i (rd_T45 l0 i).f1
    else if (rd_T45 l0 i).f0 = 2 then
     (if 0 ≤ (rd_T45 l0 i).f1 then (if (rd_T45 l0 i).f1 < (l1.length : Int) then expr_Eval.l1 k l0 l1 l2 st i (rd l1 (rd_T45 l0 i).f1) else none) else none)
    else if (rd_T45 l0 i).f0 = 3 then
     (if 0 ≤ (rd_T45 l0 i).f1 then (if (rd_T45 l0 i).f1 < (l2.length : Int) then expr_Eval.l1 k l0 l1 l2 st i (rd l2 (rd_T45 l0 i).f1) else none) else none)
    else (expr_takes.f k (rd_T45 l0 i).f0).bind fun t =>
     (if 0 ≤ t then
      (if t ≤ (st.length : Int) then
       (expr_made.f k (rd_T45 l0 i).f0 (st.drop (st.length - t.toNat))).bind fun q =>
        (if q.2 = true then expr_Eval.l1 k l0 l1 l2 (st.take (st.length - t.toNat)) i q.1 else some (0, 3))
       else none)
      else none))
   else none)
  else (if 0 < st.length then some (rd st 0, 0) else none)
/-- A number more waits. -/
def expr_Eval.l1 : Nat → List (S45) → List Int → List Int → List Int → Int → Int → Option (Int × Int)
 | 0, _, _, _, _, _, _ => none
 | k + 1, l0, l1, l2, st, i, v => if st.length < 31 then expr_Eval.l0 k l0 l1 l2 (st ++ [v]) (i + 1) else none
end
def expr_Eval.f (k : Nat) (l0 : List (S45)) (l1 : List Int) (l2 : List Int) : Option (Int × Int) :=
 (expr_Check.f k l0 (l1.length : Int) (l2.length : Int)).bind fun b =>
  (if b.2 = 0 then (expr_values.f k l1).bind fun v1 =>
   (if v1 = true then (expr_values.f k l2).bind fun v2 => (if v2 = true then expr_Eval.l0 k l0 l1 l2 [] 0 else some (0, 2)) else some (0, 2))
  else some (0, b.2))

theorem expr_Eval.mono_l : ∀ k, (∀ y0 y1 y2 y3 y4, LeO (expr_Eval.l0 k y0 y1 y2 y3 y4) (expr_Eval.l0 (k + 1) y0 y1 y2 y3 y4)) ∧ (∀ y0 y1 y2 y3 y4 y5, LeO (expr_Eval.l1 k y0 y1 y2 y3 y4 y5) (expr_Eval.l1 (k + 1) y0 y1 y2 y3 y4 y5))
 | 0 => ⟨fun _ _ _ _ _ r h => by simp [expr_Eval.l0] at h, fun _ _ _ _ _ _ r h => by simp [expr_Eval.l1] at h⟩
 | k + 1 => by
  obtain ⟨ih0, ih1⟩ := expr_Eval.mono_l k
  refine ⟨?_, ?_⟩
  ·
   intro y0 y1 y2 y3 y4
   unfold expr_Eval.l0
   repeat' first
   | (with_reducible exact ih0 _ _ _ _ _)
   | (with_reducible exact ih1 _ _ _ _ _ _)
   | (with_reducible exact expr_takes.mono _ _)
   | (with_reducible exact expr_made.mono _ _ _)
   | (with_reducible exact LeO.refl _)
   | (with_reducible exact LeO.none _)
   | (with_reducible refine LeO.ite ?_ ?_)
   | (with_reducible refine LeO.bind ?_ (fun _ => ?_))
  ·
   intro y0 y1 y2 y3 y4 y5
   unfold expr_Eval.l1
   repeat' first
   | (with_reducible exact ih0 _ _ _ _ _)
   | (with_reducible exact LeO.none _)
   | (with_reducible refine LeO.ite ?_ ?_)
theorem expr_Eval.mono : ∀ a0 a1 a2 k, LeO (expr_Eval.f k a0 a1 a2) (expr_Eval.f (k + 1) a0 a1 a2) := by
 intro a0 a1 a2 k
 obtain ⟨ih0, ih1⟩ := expr_Eval.mono_l k
 unfold expr_Eval.f
 repeat' first
   | (with_reducible exact ih0 _ _ _ _ _)
   | (with_reducible exact expr_Check.mono _ _ _ _)
   | (with_reducible exact expr_values.mono _ _)
   | (with_reducible exact LeO.refl _)
   | (with_reducible refine LeO.ite ?_ ?_)
   | (with_reducible refine LeO.bind ?_ (fun _ => ?_))
theorem arr_cut (P : Program) (arr e : TypeId) (N : Nat) (_ha : P.underlying arr = some (.array N e)) (hp : P.underlying arr = some (.array (P.arrayLen arr) (P.elem arr))) (hn : P.arrayLen arr = N) (he : P.elem arr = e) (hs : (P.info? e).map (fun i => i.size) = some 1)
  (g : Nat) (st xs : List Int) (hl : st.length + xs.length = N) (hN : N ≤ 9223372036854775807) (t : Int) (h0 : 0 ≤ t) (h1 : t ≤ (st.length : Int)) :
  ∃ (A : Option Addr) (c : Nat), (∀ W : World, (Instr.sliceAt arr (.pointer (some ⟨g, 0, none⟩)) (some (.int .i64 ((st.length : Int) - t))) (some (.int .i64 (st.length : Int))) none).run P W = .ok (.slice A (st.drop (st.length - t.toNat)).length c) W) ∧
   (st.drop (st.length - t.toNat)).length ≤ c ∧ ∀ (w : World) (b : TypeId), w.heap[g]? = some (.cells (nums .i64 (st ++ xs)).toArray b (0, 0)) → Kd.C (Kd.int .i64) w A (st.drop (st.length - t.toNat)).length (st.drop (st.length - t.toNat)) := by
 have hsz : ∀ W : World, (sizeOf (P.elem arr)).run P W = .ok 1 W := by
  intro W
  obtain ⟨i, hi, h1⟩ := Option.map_eq_some_iff.1 hs
  rw [he]
  simp [sizeOf, typeInfo, hi, h1]
 have hd : (st.drop (st.length - t.toNat)).length = t.toNat := by rw [List.length_drop]; omega
 refine ⟨some (if N = st.length - t.toNat then ⟨g, 0, none⟩ else (⟨g, 0, none⟩ : Addr).add ((st.length - t.toNat) * 1)), N - (st.length - t.toNat), fun W => ?_, by rw [hd]; omega, fun w b hb => ?_⟩
 ·
  rw [run_sliceAt_array_lh W arr ⟨g, 0, none⟩ hp .i64 .i64 ((st.length : Int) - t) (st.length : Int) (by omega) (by omega) (by rw [hn]; omega), hsz W]
  have e1 : ((st.length : Int) - t).toNat = st.length - t.toNat := by omega
  have e2 : ((st.length : Int)).toNat = st.length := by omega
  simp only [Result.andThen, slicedAt, e1, e2, hn, hd]
  have e3 : st.length - (st.length - t.toNat) = t.toNat := by omega
  rw [e3]
 ·
  refine ⟨rfl, by rw [hd]; omega, fun hp => ⟨_, rfl, fun j p hj => ?_⟩⟩
  have hjl : j < (st.drop (st.length - t.toNat)).length := by
   rcases Nat.lt_or_ge j (st.drop (st.length - t.toNat)).length with h | h
   ·
    exact h
   ·
    rw [List.getElem?_eq_none h] at hj
    cases hj
  rw [if_neg (by omega)]
  refine ⟨[.int .i64 p], rfl, rfl, fun i u hu => ?_⟩
  have hi0 : i = 0 := by
   cases i with
   | zero => rfl
   | succ i => simp at hu
  subst hi0
  simp only [List.getElem?_cons_zero, Option.some.injEq] at hu
  subst hu
  have ea : ((⟨g, 0, none⟩ : Addr).add ((st.length - t.toNat) * 1)).add (j * 1 + 0) = ⟨g, st.length - t.toNat + j, none⟩ := by
   rw [add_plain, Nat.mul_one, Nat.mul_one, Nat.add_zero]
   unfold Addr.add
   split
   ·
    rename_i h0; subst h0; rfl
   ·
    rfl
  show w.cell? (((⟨g, 0, none⟩ : Addr).add ((st.length - t.toNat) * 1)).add (j * 1 + 0)) = _
  rw [ea, blk_cell hb]
  rw [List.getElem?_drop] at hj
  simp only [nums, List.getElem?_toArray, List.getElem?_map]
  rw [List.getElem?_append_left (by omega), hj]
  rfl

set_option maxHeartbeats 8000000 in
set_option maxRecDepth 100000 in
theorem expr_Eval.calls (k : Nat) (A0 : Option Addr) (c0 : Nat) (l0 : List (S45)) (A1 : Option Addr) (c1 : Nat) (l1 : List Int) (A2 : Option Addr) (c2 : Nat) (l2 : List Int) (r1 : Int) (r2 : Int) (w : World) (hr0 : Kd.C k45 w A0 l0.length l0) (hc0 : l0.length ≤ c0) (hr1 : Kd.C (Kd.int .i64) w A1 l1.length l1) (hc1 : l1.length ≤ c1) (hr2 : Kd.C (Kd.int .i64) w A2 l2.length l2) (hc2 : l2.length ≤ c2) (h : expr_Eval.f k l0 l1 l2 = some (r1, r2)) :
  Calls Try.prog 11 #[.slice A0 l0.length c0, .slice A1 l1.length c1, .slice A2 l2.length c2] w fun e w' => e = .returned (.tuple #[.int .i64 r1, .int .i64 r2]) ∧ Below w.heap.size w w' := by
 have hu := Try.underlying45
 have hua := Try.underlying50
 have HR0 := Am hr0
 have HC0 := Am hc0
 have HR1 := Am hr1
 have HC1 := Am hc1
 have HR2 := Am hr2
 have HC2 := Am hc2
 clear hr0 hc0 hr1 hc1 hr2 hc2
 have HB := Am (Below.refl w.heap.size w)
 have H := h
 clear h
 simp only [expr_Eval.f] at H
 replace H := Option.bind_eq_some_iff.mp H
 obtain ⟨⟨q1, q2⟩, B1, H⟩ := H
 replace H : (if q2 = 0 then (expr_values.f k l1).bind fun v1 => (if v1 = true then (expr_values.f k l2).bind fun v2 => (if v2 = true then expr_Eval.l0 k l0 l1 l2 [] 0 else some (0, 2)) else some (0, 2)) else some (0, q2)) = some (r1, r2) := H
 have AA1 := Am B1
 clear B1
 by_cases c1 : q2 = 0
 ·
  rw [if_pos c1] at H
  have c1b0 : (q2 == 0) = true := beq_iff_eq.mpr c1
  have c1b1 : (q2 != 0) = false := bne_eq_false_iff_eq.mpr c1
  clear c1
  replace H := Option.bind_eq_some_iff.mp H
  obtain ⟨v1, B1, H⟩ := H
  have AA2 := Am B1
  clear B1
  by_cases c2 : v1 = true
  ·
   subst c2
   rw [if_pos rfl] at H
   replace H := Option.bind_eq_some_iff.mp H
   obtain ⟨v2, B1, H⟩ := H
   have AA3 := Am B1
   clear B1
   by_cases c3 : v2 = true
   ·
    subst c3
    rw [if_pos rfl] at H
    have H' := Am H
    clear H
    go_enter Try.func11, Try.ntmps11
    go_wp2_with (first | ((with_reducible refine gate_dst (N := 10) rfl ?_); refine box_event ?hg (N := 10) ?hd (cs := #[.int .i64 0, .int .i64 0, .int .i64 0, .int .i64 0, .int .i64 0, .int .i64 0, .int .i64 0, .int .i64 0, .int .i64 0, .int .i64 0, .int .i64 0, .int .i64 0, .int .i64 0, .int .i64 0, .int .i64 0, .int .i64 0, .int .i64 0, .int .i64 0, .int .i64 0, .int .i64 0, .int .i64 0, .int .i64 0, .int .i64 0, .int .i64 0, .int .i64 0, .int .i64 0, .int .i64 0, .int .i64 0, .int .i64 0, .int .i64 0, .int .i64 0]) (t := 50) ?hr ?_; (case hd => rfl); (case hg => rfl); (case hr => first | (go_simp; done) | (go_simp; rfl)); intro gb hg w13 hbox hb; skip; have BK := Am hbox; have GE := Am ((by rw [hg]; exact (below_size (bl)) : w.heap.size ≤ gb)); have n0_ := Am (below_step (bl) hb); clear HB; have HB := n0_; clear n0_; clear hb hbox hg) | ((with_reducible refine gate_callee (f := 8) rfl ?_); refine goesL_ (some 23) rfl rfl Try.func8 (by kernel_rfl) rfl #[.slice A0 l0.length c0, .int .i64 (l1.length : Int), .int .i64 (l2.length : Int)] rfl (by (try simp only [List.map_toArray, List.map_cons, List.map_nil]); first | done | rfl) ?_; (with_reducible refine (expr_Check.calls k _ _ l0 (l1.length : Int) (l2.length : Int) q1 q2 _ ?side1 ?side2 AA1.out).mono ?_); (case side1 => exact (by repeat (first | exact HR0.out | (with_reducible refine Kd.C_alloc ?_ _) | (with_reducible refine Kd.C_drewN ?_ _) | (with_reducible refine Kd.C_drew ?_)))); (case side2 => exact HC0.out); rintro e w' ⟨rfl, hb⟩; refine ⟨_, rfl, ?_⟩; have n0_ := Am (below_step (bl) hb); clear HB; have HB := n0_; clear n0_) | ((with_reducible refine gate_callee (f := 25) rfl ?_); refine goesL_ (some 30) rfl rfl Try.func25 (by kernel_rfl) rfl #[.slice A1 l1.length c1] rfl (by (try simp only [List.map_toArray, List.map_cons, List.map_nil]); first | done | rfl) ?_; (with_reducible refine (expr_values.calls k _ _ l1 true _ ?side1 ?side2 AA2.out).mono ?_); (case side1 => exact Kd.C_below HR1.out (bl)); (case side2 => exact HC1.out); rintro e w' ⟨rfl, ⟨nd, rfl⟩⟩; refine ⟨_, rfl, ?_⟩) | (go_at_call 25; (with_reducible refine (expr_values.calls k _ _ l2 true _ ?side1 ?side2 AA3.out).mono ?_); (case side1 => exact Kd.C_below HR2.out (bl)); (case side2 => exact HC2.out); rintro e w' ⟨rfl, ⟨nd, rfl⟩⟩))
    go_loopg [11, 39] k (fun kq v11 v39 w' => ∃ (st xs : List Int) (i : Int), v11 = .int .i64 (st.length : Int) ∧ v39 = .int .i64 i ∧ Aside0 (expr_Eval.l0 kq l0 l1 l2 st i = some (r1, r2)) ∧ Aside0 (kq ≤ k) ∧ Aside0 (st.length + xs.length = 31) ∧ Aside0 (w'.heap[gb]? = some (.cells (nums .i64 (st ++ xs)).toArray 50 (0, 0))) ∧ Aside0 (Below w.heap.size w w'))
    case atStart => exact ⟨[], List.replicate 31 0, 0, rfl, rfl, H', ⟨Nat.le_refl _⟩, ⟨rfl⟩, ⟨BK.out⟩, ⟨(bl)⟩⟩
    case round =>
     have GB := GE
     clear H' BK GE
     clear AA1 AA2 AA3
     obtain ⟨st, xs, i, rfl, rfl, HA, HK, HL, BK, HB⟩ := hrel
     cases gk with
     | zero => exact absurd HA.out (by simp [expr_Eval.l0])
     | succ k2 =>
      have H := HA.out
      clear HA
      simp only [expr_Eval.l0] at H
      by_cases c8 : i < (l0.length : Int)
      ·
       rw [if_pos c8] at H
       by_cases c9 : 0 ≤ i
       ·
        rw [if_pos c9] at H
        obtain ⟨ad0, e0, hx0_0, hx0_1⟩ := at_T45 HR0.out i c9 c8
        cases e0
        replace hx0_0 := (HB.out.cell (World.block_lt_of_cell? w _ hx0_0)).trans hx0_0
        replace hx0_1 := (HB.out.cell (World.block_lt_of_cell? w _ hx0_1)).trans hx0_1
        have c8b0 : decide (i < (l0.length : Int)) = true := decide_eq_true c8
        have c9b0 : decide (0 ≤ i) = true := decide_eq_true c9
        have CI := Am (show wrap64 (i + 1) = i + 1 by have := HR0.out.2.1; unfold wrap64; omega)
        replace c8 := eq_true c8
        replace c9 := eq_true c9
        have H' := Am H
        clear H
        go_upto_block 2 with ((with_reducible refine gate_dst (N := 13) rfl ?_); refine box_event ?hg (N := 13) ?hd (cs := #[.int .i64 0, .int .i64 0]) (t := 45) ?hr ?_; (case hd => rfl); (case hg => rfl); (case hr => first | (go_simp; done) | (go_simp; rfl)); intro gi hg w13 hbox hb; skip; have BI := Am hbox; have NE := Am (show gb ≠ gi by have h1 := blk_lt BK.out; omega); have GI := Am ((by rw [hg]; exact (below_size (bl)) : w.heap.size ≤ gi)); have n0_ := Am (blk_below BK.out hb); have n1_ := Am (below_step (bl) hb); clear BK; clear HB; have BK := n0_; have HB := n1_; clear n0_ n1_; clear hb hbox hg; have hci0 : w13.cell? ⟨gi, 0, none⟩ = some (.int .i64 0) := (blk_cell BI.out 0).trans rfl; have hci1 : w13.cell? ⟨gi, 1, none⟩ = some (.int .i64 0) := (blk_cell BI.out 1).trans rfl; have hfi0 := blk_frozen BI.out 0; have hfi1 := blk_frozen BI.out 1)
        have hcI := blk_set (blk_set BI.out 0 (.int .i64 (rd_T45 l0 i).f0)) 1 (.int .i64 (rd_T45 l0 i).f1)
        have nI := Am (show _ = some (Obj.cells #[.int .i64 (rd_T45 l0 i).f0, .int .i64 (rd_T45 l0 i).f1] 45 (0, 0)) from hcI)
        have nK := Am (blk_far (p := ⟨gi, 1, none⟩) (blk_far (p := ⟨gi, 0, none⟩) BK.out NE.out (.int .i64 (rd_T45 l0 i).f0)) NE.out (.int .i64 (rd_T45 l0 i).f1))
        have nB := Am (below_set (j := 1) (v := .int .i64 (rd_T45 l0 i).f1) (below_set (j := 0) (v := .int .i64 (rd_T45 l0 i).f0) HB.out GI.out) GI.out)
        clear hcI BI BK HB hci0 hci1 hfi0 hfi1 hx0_0 hx0_1
        have BI := nI
        have BK := nK
        have HB := nB
        clear nI nK nB
        generalize (w13.setCell ⟨gi, 0, none⟩ (.int .i64 (rd_T45 l0 i).f0)).setCell ⟨gi, 1, none⟩ (.int .i64 (rd_T45 l0 i).f1) = w14 at BI BK HB ⊢
        have hci0 : w14.cell? ⟨gi, 0, none⟩ = some (.int .i64 (rd_T45 l0 i).f0) := (blk_cell BI.out 0).trans rfl
        have hci1 : w14.cell? ⟨gi, 1, none⟩ = some (.int .i64 (rd_T45 l0 i).f1) := (blk_cell BI.out 1).trans rfl
        have H2 := H'.out
        clear H'
        generalize (rd_T45 l0 i).f0 = f0 at H2 hci0 hci1 BI ⊢
        generalize (rd_T45 l0 i).f1 = f1 at H2 hci0 hci1 BI ⊢
        go_cut [11, 14, 15] (fun v11 v14 v15 wc => ∃ (kq : Nat) (st xs : List Int) (v : Int) (q : Bool), v11 = .int .i64 (st.length : Int) ∧ v14 = .int .i64 v ∧ v15 = .bool q ∧ Aside0 ((if q = true then expr_Eval.l1 kq l0 l1 l2 st i v else some (0, 3)) = some (r1, r2)) ∧ Aside0 (kq ≤ k2) ∧ Aside0 (st.length + xs.length = 31) ∧ Aside0 (wc.heap[gb]? = some (.cells (nums .i64 (st ++ xs)).toArray 50 (0, 0))) ∧ Aside0 (Below w.heap.size w wc))
        case first =>
         by_cases d1 : f0 = 1
         ·
          rw [if_pos d1] at H2
          have H' := Am H2
          clear H2
          have d1b : (f0 == 1) = true := beq_iff_eq.mpr d1
          clear d1
          go_wp2
          go_meet
          case rel => exact ⟨k2, st, xs, f1, true, rfl, rfl, rfl, ⟨by rw [if_pos rfl]; exact H'.out⟩, ⟨Nat.le_refl _⟩, HL, BK, HB⟩
         ·
          rw [if_neg d1] at H2
          have d1b : (f0 == 1) = false := beq_eq_false_iff_ne.mpr d1
          clear d1
          by_cases d2 : f0 = 2
          ·
           rw [if_pos d2] at H2
           have d2b : (f0 == 2) = true := beq_iff_eq.mpr d2
           clear d2
           by_cases d4 : 0 ≤ f1
           ·
            rw [if_pos d4] at H2
            by_cases d5 : f1 < (l1.length : Int)
            ·
             rw [if_pos d5] at H2
             have H' := Am H2
             clear H2
             obtain ⟨ad1, e1, hx1⟩ := Kd.at_int HR1.out f1 d4 d5
             cases e1
             replace hx1 := (HB.out.cell (World.block_lt_of_cell? w _ hx1)).trans hx1
             have d4b : decide (0 ≤ f1) = true := decide_eq_true d4
             have d5b : decide (f1 < (l1.length : Int)) = true := decide_eq_true d5
             replace d4 := eq_true d4
             replace d5 := eq_true d5
             go_wp2
             go_meet
             case rel => exact ⟨k2, st, xs, rd l1 f1, true, rfl, rfl, rfl, ⟨by rw [if_pos rfl]; exact H'.out⟩, ⟨Nat.le_refl _⟩, HL, BK, HB⟩
            ·
             rw [if_neg d5] at H2
             exact absurd H2 (by simp)
           ·
            rw [if_neg d4] at H2
            exact absurd H2 (by simp)
          ·
           rw [if_neg d2] at H2
           have d2b : (f0 == 2) = false := beq_eq_false_iff_ne.mpr d2
           clear d2
           by_cases d3 : f0 = 3
           ·
            rw [if_pos d3] at H2
            have d3b : (f0 == 3) = true := beq_iff_eq.mpr d3
            clear d3
            by_cases d4 : 0 ≤ f1
            ·
             rw [if_pos d4] at H2
             by_cases d5 : f1 < (l2.length : Int)
             ·
              rw [if_pos d5] at H2
              have H' := Am H2
              clear H2
              obtain ⟨ad1, e1, hx1⟩ := Kd.at_int HR2.out f1 d4 d5
              cases e1
              replace hx1 := (HB.out.cell (World.block_lt_of_cell? w _ hx1)).trans hx1
              have d4b : decide (0 ≤ f1) = true := decide_eq_true d4
              have d5b : decide (f1 < (l2.length : Int)) = true := decide_eq_true d5
              replace d4 := eq_true d4
              replace d5 := eq_true d5
              go_wp2
              go_meet
              case rel => exact ⟨k2, st, xs, rd l2 f1, true, rfl, rfl, rfl, ⟨by rw [if_pos rfl]; exact H'.out⟩, ⟨Nat.le_refl _⟩, HL, BK, HB⟩
             ·
              rw [if_neg d5] at H2
              exact absurd H2 (by simp)
            ·
             rw [if_neg d4] at H2
             exact absurd H2 (by simp)
           ·
            rw [if_neg d3] at H2
            have d3b : (f0 == 3) = false := beq_eq_false_iff_ne.mpr d3
            clear d3
            replace H2 := Option.bind_eq_some_iff.mp H2
            obtain ⟨t, B1, H2⟩ := H2
            have AT := Am B1
            clear B1
            by_cases d4 : 0 ≤ t
            ·
             rw [if_pos d4] at H2
             by_cases d5 : t ≤ (st.length : Int)
             ·
              rw [if_pos d5] at H2
              replace H2 := Option.bind_eq_some_iff.mp H2
              obtain ⟨⟨q1_, q2_⟩, B1, H2⟩ := H2
              have AM := Am B1
              clear B1
              have H' := Am (show (if q2_ = true then expr_Eval.l1 k2 l0 l1 l2 (st.take (st.length - t.toNat)) i q1_ else some (0, 3)) = some (r1, r2) from H2)
              clear H2
              have hlen := HL.out
              obtain ⟨dd, hdd⟩ : ∃ dd, dd = st.drop (st.length - t.toNat) := ⟨_, rfl⟩
              obtain ⟨A9, c9, hcut, hcc, hrd⟩ := arr_cut Try.prog 50 3 31 Try.underlying50 (by kernel_rfl) (by kernel_rfl) (by kernel_rfl) (by kernel_rfl) gb st xs hlen (by decide) t d4 d5
              replace hrd := hrd w14 50 BK.out
              replace AM := AM.out
              rw [← hdd] at hcut hcc hrd AM
              replace AM := Am AM
              clear hdd
              replace hrd := Am hrd
              replace hcc := Am hcc
              have hw1 : IntKind.i64.wrap ((st.length : Int) - t) = (st.length : Int) - t := IntWalk.i64_in _ (by omega)
              have hw2 : wrap64 ((st.length : Int) - t) = (st.length : Int) - t := by unfold wrap64; omega
              have hln := Am hlen
              have hds := Am (And.intro d4 d5)
              clear hlen d4 d5
              go_wp2_with (first | ((with_reducible refine gate_callee (f := 21) rfl ?_); refine goesL_ (some 49) rfl rfl Try.func21 (by kernel_rfl) rfl #[.int .i64 f0] rfl (by (try simp only [List.map_toArray, List.map_cons, List.map_nil]); first | done | rfl) ?_; (with_reducible refine (expr_takes.calls k2 f0 t _ AT.out).mono ?_); rintro e w' ⟨rfl, ⟨nd, rfl⟩⟩; refine ⟨_, rfl, ?_⟩))
              go_region_with (go_at_call 26; (with_reducible refine (expr_made.calls k2 f0 A9 c9 dd q1_ q2_ _ ?side1 ?side2 AM.out).mono ?_); (case side1 => exact Kd.C_drewN hrd.out _); (case side2 => exact hcc.out); rintro e w' ⟨rfl, hb⟩; have nK := Am (blk_below (g := gb) (o := .cells (nums .i64 (st ++ xs)).toArray 50 (0, 0)) (blk_drewN BK.out _) hb); have nB := Am (below_step (pw_below_drewN HB.out _) hb))
              all_goals
               go_wp2
               go_meet
               case rel =>
                have g1 := hds.out.1
                have g2 := hds.out.2
                have g3 := hln.out
                refine ⟨k2, st.take (st.length - t.toNat), st.drop (st.length - t.toNat) ++ xs, q1_, q2_, ?_, rfl, rfl, H', ⟨Nat.le_refl _⟩, ⟨?_⟩, ⟨?_⟩, nB⟩
                ·
                 have : ((st.take (st.length - t.toNat)).length : Int) = (st.length : Int) - t := by rw [List.length_take]; omega
                 rw [this]
                ·
                 rw [List.length_append, List.length_take, List.length_drop]; omega
                ·
                 rw [← List.append_assoc, List.take_append_drop]; exact nK.out
             ·
              rw [if_neg d5] at H2
              exact absurd H2 (by simp)
            ·
             rw [if_neg d4] at H2
             exact absurd H2 (by simp)
        case rest =>
         clear H2 hci0 hci1 BI BK HB HL
         obtain ⟨kq, st, xs, v, q, rfl, rfl, rfl, HA, HJ, HL, BK, HB⟩ := hcut
         have H := HA.out
         clear HA
         by_cases c3 : q = true
         ·
          subst c3
          rw [if_pos rfl] at H
          cases kq with
          | zero => exact absurd H (by simp [expr_Eval.l1])
          | succ k3 =>
           simp only [expr_Eval.l1] at H
           by_cases c4 : st.length < 31
           ·
            rw [if_pos c4] at H
            have hlen := HL.out
            cases xs with
            | nil => exfalso; simp only [List.length_nil] at hlen; omega
            | cons y ys =>
             have hcz : wc.cell? ⟨gb, st.length, none⟩ = some (.int .i64 y) := (blk_cell BK.out st.length).trans (by simp [nums])
             have hfz := blk_frozen BK.out st.length
             have H' := Am H
             clear H
             have c4b : decide ((st.length : Int) < 31) = true := decide_eq_true (by omega)
             replace HL := Am (show (st ++ [v]).length + ys.length = 31 by simp only [List.length_append, List.length_cons, List.length_nil] at hlen ⊢; omega)
             clear hlen
             have nK := Am (show (wc.setCell ⟨gb, st.length, none⟩ (.int .i64 v)).heap[gb]? = some (.cells (nums .i64 ((st ++ [v]) ++ ys)).toArray 50 (0, 0)) from (blk_set BK.out st.length (.int .i64 v)).trans (by simp [nums]))
             have nB := Am (below_set (j := st.length) (v := .int .i64 v) HB.out GB.out)
             clear BK HB
             go_wp2
             go_roundg k3
             case measure => have := HK.out; have := HJ.out; omega
             case rel => exact ⟨st ++ [v], ys, i + 1, by simp, by first | rfl | (rw [CI.out]), H', ⟨by have := HK.out; have := HJ.out; omega⟩, HL, nK, nB⟩
           ·
            rw [if_neg c4] at H
            exact absurd H (by simp)
         ·
          replace c3 := Bool.eq_false_iff.mpr c3
          subst c3
          rw [if_neg (by decide)] at H
          simp only [Option.some.injEq, Prod.mk.injEq] at H
          obtain ⟨rfl, rfl⟩ := H
          go_wp2
          go_ret2
          exact ⟨by first | rfl | (simp; done) | (simp [*]; done), (bl)⟩
       ·
        rw [if_neg c9] at H
        exact absurd H (by simp)
      ·
       rw [if_neg c8] at H
       have c8b0 : decide (i < (l0.length : Int)) = false := decide_eq_false c8
       clear c8
       by_cases c9 : 0 < st.length
       ·
        rw [if_pos c9] at H
        simp only [Option.some.injEq, Prod.mk.injEq] at H
        obtain ⟨rfl, rfl⟩ := H
        have hcz : wr.cell? ⟨gb, 0, none⟩ = some (.int .i64 (rd st 0)) := (blk_cell BK.out 0).trans (by
         cases st with
         | nil => simp at c9
         | cons a st => rfl)
        go_wp2
        go_ret2
        exact ⟨by first | rfl | (simp; done) | (simp [*]; done), (bl)⟩
       ·
        rw [if_neg c9] at H
        exact absurd H (by simp)

   ·
    replace c3 := Bool.eq_false_iff.mpr c3
    subst c3
    rw [if_neg (by decide)] at H
    simp only [Option.some.injEq, Prod.mk.injEq] at H
    obtain ⟨rfl, rfl⟩ := H
    go_enter Try.func11, Try.ntmps11
    go_wp2_with (first | ((with_reducible refine gate_callee (f := 8) rfl ?_); refine goesL_ (some 23) rfl rfl Try.func8 (by kernel_rfl) rfl #[.slice A0 l0.length c0, .int .i64 (l1.length : Int), .int .i64 (l2.length : Int)] rfl (by (try simp only [List.map_toArray, List.map_cons, List.map_nil]); first | done | rfl) ?_; (with_reducible refine (expr_Check.calls k _ _ l0 (l1.length : Int) (l2.length : Int) q1 q2 _ ?side1 ?side2 AA1.out).mono ?_); (case side1 => exact (by repeat (first | exact HR0.out | (with_reducible refine Kd.C_alloc ?_ _) | (with_reducible refine Kd.C_drewN ?_ _) | (with_reducible refine Kd.C_drew ?_)))); (case side2 => exact HC0.out); rintro e w' ⟨rfl, hb⟩; refine ⟨_, rfl, ?_⟩; have n0_ := Am (below_step (bl) hb); clear HB; have HB := n0_; clear n0_) | ((with_reducible refine gate_callee (f := 25) rfl ?_); refine goesL_ (some 30) rfl rfl Try.func25 (by kernel_rfl) rfl #[.slice A1 l1.length c1] rfl (by (try simp only [List.map_toArray, List.map_cons, List.map_nil]); first | done | rfl) ?_; (with_reducible refine (expr_values.calls k _ _ l1 true _ ?side1 ?side2 AA2.out).mono ?_); (case side1 => exact Kd.C_below HR1.out (bl)); (case side2 => exact HC1.out); rintro e w' ⟨rfl, ⟨nd, rfl⟩⟩; refine ⟨_, rfl, ?_⟩) | (go_at_call 25; (with_reducible refine (expr_values.calls k _ _ l2 false _ ?side1 ?side2 AA3.out).mono ?_); (case side1 => exact Kd.C_below HR2.out (bl)); (case side2 => exact HC2.out); rintro e w' ⟨rfl, ⟨nd, rfl⟩⟩))
    go_ret2
    exact ⟨by first | rfl | (simp; done) | (simp [*]; done), (bl)⟩
  ·
   replace c2 := Bool.eq_false_iff.mpr c2
   subst c2
   rw [if_neg (by decide)] at H
   simp only [Option.some.injEq, Prod.mk.injEq] at H
   obtain ⟨rfl, rfl⟩ := H
   go_enter Try.func11, Try.ntmps11
   go_wp2_with (first | ((with_reducible refine gate_callee (f := 8) rfl ?_); refine goesL_ (some 23) rfl rfl Try.func8 (by kernel_rfl) rfl #[.slice A0 l0.length c0, .int .i64 (l1.length : Int), .int .i64 (l2.length : Int)] rfl (by (try simp only [List.map_toArray, List.map_cons, List.map_nil]); first | done | rfl) ?_; (with_reducible refine (expr_Check.calls k _ _ l0 (l1.length : Int) (l2.length : Int) q1 q2 _ ?side1 ?side2 AA1.out).mono ?_); (case side1 => exact (by repeat (first | exact HR0.out | (with_reducible refine Kd.C_alloc ?_ _) | (with_reducible refine Kd.C_drewN ?_ _) | (with_reducible refine Kd.C_drew ?_)))); (case side2 => exact HC0.out); rintro e w' ⟨rfl, hb⟩; refine ⟨_, rfl, ?_⟩; have n0_ := Am (below_step (bl) hb); clear HB; have HB := n0_; clear n0_) | ((with_reducible refine gate_callee (f := 25) rfl ?_); refine goesL_ (some 30) rfl rfl Try.func25 (by kernel_rfl) rfl #[.slice A1 l1.length c1] rfl (by (try simp only [List.map_toArray, List.map_cons, List.map_nil]); first | done | rfl) ?_; (with_reducible refine (expr_values.calls k _ _ l1 false _ ?side1 ?side2 AA2.out).mono ?_); (case side1 => exact Kd.C_below HR1.out (bl)); (case side2 => exact HC1.out); rintro e w' ⟨rfl, ⟨nd, rfl⟩⟩; refine ⟨_, rfl, ?_⟩))
   go_ret2
   exact ⟨by first | rfl | (simp; done) | (simp [*]; done), (bl)⟩
 ·
  rw [if_neg c1] at H
  have c1b0 : (q2 == 0) = false := beq_eq_false_iff_ne.mpr c1
  have c1b1 : (q2 != 0) = true := bne_iff_ne.mpr c1
  clear c1
  simp only [Option.some.injEq, Prod.mk.injEq] at H
  obtain ⟨rfl, rfl⟩ := H
  go_enter Try.func11, Try.ntmps11
  go_wp2_with (first | ((with_reducible refine gate_callee (f := 8) rfl ?_); refine goesL_ (some 23) rfl rfl Try.func8 (by kernel_rfl) rfl #[.slice A0 l0.length c0, .int .i64 (l1.length : Int), .int .i64 (l2.length : Int)] rfl (by (try simp only [List.map_toArray, List.map_cons, List.map_nil]); first | done | rfl) ?_; (with_reducible refine (expr_Check.calls k _ _ l0 (l1.length : Int) (l2.length : Int) q1 q2 _ ?side1 ?side2 AA1.out).mono ?_); (case side1 => exact (by repeat (first | exact HR0.out | (with_reducible refine Kd.C_alloc ?_ _) | (with_reducible refine Kd.C_drewN ?_ _) | (with_reducible refine Kd.C_drew ?_)))); (case side2 => exact HC0.out); rintro e w' ⟨rfl, hb⟩; refine ⟨_, rfl, ?_⟩; have n0_ := Am (below_step (bl) hb); clear HB; have HB := n0_; clear n0_))
  go_ret2
  exact ⟨by first | rfl | (simp; done) | (simp [*]; done), (bl)⟩



/-! ### expr_consts: function 28 -/
def expr_consts.l0 : Nat → List Int → List (S45) → Int → Int → Option (List Int × Bool)
 | 0, _, _, _, _ => none
 | k + 1, x6, x18, x19, x20 => if x20 < x19 then (if 0 ≤ x20 then (if x20 < (x18.length : Int) then (if ((rd_T45 x18 x20).f0) = 1 then (if x6.length < 17592186044416 then (expr_consts.l0 k (x6 ++ [(rd_T45 x18 x20).f1]) x18 x19 (wrap64 (x20 + 1))) else (none)) else (some (([] : List Int), false))) else (none)) else (none)) else (some (x6, true))
def expr_consts.f (k : Nat) (l0 : List (S45)) (a1 : Int) : Option (List Int × Bool) := if (l0.length : Int) < a1 then (some (([] : List Int), false)) else (if 0 ≤ (wrap64 ((l0.length : Int) - a1)) then (if (wrap64 ((l0.length : Int) - a1)) ≤ (l0.length : Int) then ((some (l0.drop ((wrap64 ((l0.length : Int) - a1)) : Int).toNat : List (S45))).bind fun y152 => (expr_consts.l0 k ([] : List Int) y152 (y152.length : Int) 0)) else (none)) else (none))
theorem expr_consts.mono_l : ∀ k, (∀ y0 y1 y2 y3, LeO (expr_consts.l0 k y0 y1 y2 y3) (expr_consts.l0 (k + 1) y0 y1 y2 y3))
 | 0 => fun _ _ _ _ r h => by simp [expr_consts.l0] at h
 | k + 1 => by
  have ih0 := expr_consts.mono_l k
  ·
   intro y0 y1 y2 y3
   unfold expr_consts.l0
   repeat' first
   | (with_reducible exact ih0 _ _ _ _)
   | (with_reducible exact LeO.refl _)
   | (with_reducible exact LeO.none _)
   | (with_reducible refine LeO.ite ?_ ?_)
   | (with_reducible refine LeO.bind ?_ (fun _ => ?_))
   | exact ih0 _ _ _ _
   | exact LeO.none _
   | refine LeO.ite ?_ ?_
   | refine LeO.bind ?_ (fun _ => ?_)
theorem expr_consts.mono : ∀ a0 a1 k, LeO (expr_consts.f k a0 a1) (expr_consts.f (k + 1) a0 a1) := by
 intro a0 a1 k
 have ih0 := expr_consts.mono_l k
 unfold expr_consts.f
 repeat' first
   | (with_reducible exact ih0 _ _ _ _)
   | (with_reducible exact LeO.refl _)
   | (with_reducible exact LeO.none _)
   | (with_reducible refine LeO.ite ?_ ?_)
   | (with_reducible refine LeO.bind ?_ (fun _ => ?_))
   | exact ih0 _ _ _ _
   | exact LeO.none _
   | refine LeO.ite ?_ ?_
   | refine LeO.bind ?_ (fun _ => ?_)
set_option maxHeartbeats 8000000 in
set_option maxRecDepth 100000 in
theorem expr_consts.calls (k : Nat) (A0 : Option Addr) (c0 : Nat) (l0 : List (S45)) (a1 : Int) (r1 : List Int) (r2 : Bool) (w : World) (hr0 : Kd.C k45 w A0 l0.length l0) (hc0 : l0.length ≤ c0) (h : expr_consts.f k l0 a1 = some (r1, r2)) :
  Calls Try.prog 28 #[.slice A0 l0.length c0, .int .i64 a1] w fun e w' => ∃ v0_ : Value, e = .returned (.tuple #[v0_, .bool r2]) ∧ Kd.R (Kd.int .i64) 3 w' w.heap.size (fun _ => True) v0_ r1 ∧ Below w.heap.size w w' := by
 have hu45 := Try.underlying45
 have HR0 := Am hr0
 have HC0 := Am hc0
 clear hr0 hc0
 have HB := Am (Below.refl w.heap.size w)
 have H : (if (l0.length : Int) < a1 then (some (([] : List Int), false)) else (if 0 ≤ (wrap64 ((l0.length : Int) - a1)) then (if (wrap64 ((l0.length : Int) - a1)) ≤ (l0.length : Int) then ((some (l0.drop ((wrap64 ((l0.length : Int) - a1)) : Int).toNat : List (S45))).bind fun y152 => (expr_consts.l0 k ([] : List Int) y152 (y152.length : Int) 0)) else (none)) else (none))) = some (r1, r2) := h
 clear h
 by_cases c3 : (l0.length : Int) < a1
 ·
  rw [if_pos c3] at H
  have c3b0 : decide ((l0.length : Int) < a1) = true := decide_eq_true c3
  clear c3
  simp only [Option.some.injEq, Prod.mk.injEq] at H
  obtain ⟨rfl, rfl⟩ := H
  go_enter Try.func28, Try.ntmps28
  go_wp2
  go_ret2
  exact ⟨_, xq, by first | exact Kd.R_nil _ _ _ _ _ | exact Kd.N_nil _ _ _ _ _ | exact Kd.V_nil _ _ _ _ _ | exact Kd.Q_nil _ _ _ _ _ | exact Kd.S_nil _ _ _ _ _, bl⟩
 ·
  rw [if_neg c3] at H
  have c3b0 : decide ((l0.length : Int) < a1) = false := decide_eq_false c3
  clear c3
  obtain ⟨ji4, hji4⟩ : ∃ j_ : Int, (wrap64 ((l0.length : Int) - a1)) = j_ := ⟨_, rfl⟩
  replace H : (if 0 ≤ (ji4) then (if (ji4) ≤ (l0.length : Int) then ((some (l0.drop ((ji4) : Int).toNat : List (S45))).bind fun y152 => (expr_consts.l0 k ([] : List Int) y152 (y152.length : Int) 0)) else (none)) else (none)) = some (r1, r2) := by first | (rw [hji4] at H; exact H) | (simp only [hji4] at H ⊢; exact H)
  have hji4w : (IntKind.i64.wrap ((l0.length : Int) - a1)) = ji4 := (i64_w _).trans hji4
  by_cases c5 : 0 ≤ (ji4)
  ·
   rw [if_pos c5] at H
   have c5b0 := eq_true c5
   have c5b1 : decide (0 ≤ (ji4)) = true := decide_eq_true c5
   clear c5
   by_cases c6 : (ji4) ≤ (l0.length : Int)
   ·
    rw [if_pos c6] at H
    have c6b0 := eq_true c6
    have c6b1 : decide ((ji4) ≤ (l0.length : Int)) = true := decide_eq_true c6
    clear c6
    obtain ⟨y152, hy152⟩ : ∃ y_ : List (S45), y_ = (l0.drop ((ji4) : Int).toNat) := ⟨_, rfl⟩
    replace H : (expr_consts.l0 k ([] : List Int) y152 (y152.length : Int) 0) = some (r1, r2) := by first | (rw [hy152]; with_reducible exact H) | (have H2_ := (Option.bind_some _ _).symm.trans H; rw [hy152]; with_reducible exact H2_) | (have H2_ := (Option.bind_some _ _).symm.trans H; with_reducible exact H2_) | with_reducible exact H | (rw [hy152]; exact H) | exact H
    have Ny152 := Am hy152
    clear hy152
    have H' := Am H
    clear H
    have q7 : ((ji4) : Int) ≤ ((l0.length : Int) : Int) := of_decide_eq_true az
    obtain ⟨i07, hi07, _, hsz7, _⟩ := info_parts info45
    have hroom7 : l0.length ≤ c0 := HC0.out
    have hC7 : Kd.C k45 _ A0 l0.length l0 := HR0.out
    have q07 : (0 : Int) ≤ ((ji4) : Int) := of_decide_eq_true az
    have hcut7 := cut_from (P := Try.prog) 22 45 .i64 Try.underlying22 hi07 2 hsz7 A0 l0.length c0 (ji4) q07 q7
    have hr7 := Kd.C_drop (m := ((ji4) : Int).toNat) (c := c0) hC7 (by omega) hroom7
    obtain ⟨A7, hA7⟩ : ∃ A1, A1 = (if c0 = ((ji4) : Int).toNat then A0 else (A0 : Option Addr).map (·.add (((ji4) : Int).toNat * 2))) := ⟨_, rfl⟩
    obtain ⟨c7, hc7⟩ : ∃ c1, c1 = c0 - ((ji4) : Int).toNat := ⟨_, rfl⟩
    have hy7 : y152.length = l0.length - ((ji4) : Int).toNat := (by rw [Ny152.out, List.length_drop] <;> omega)
    rw [show (l0).drop ((ji4) : Int).toNat = y152 from Ny152.out.symm] at hr7
    replace hr7 : Kd.C k45 _ A7 y152.length y152 := (by rw [hA7]; exact hr7)
    rw [← hy7, ← hA7, ← hc7] at hcut7
    have HR155 := Am hr7
    have HC155 := Am (show y152.length ≤ c7 from by rw [hy7, hc7]; exact Nat.sub_le_sub_right hroom7 _)
    clear hr7 hC7 hroom7 hi07 hsz7 hc7
    have KY7 := Am hy7
    have KA7 := Am hA7
    clear hy7 hA7
    replace q7 := eq_true q7
    go_enter Try.func28, Try.ntmps28
    go_wp2
    go_loopg [6, 20] k (fun kq v6 v20 w' => ∃ (x6_1 : List Int) (x20_1 : Int), v20 = .int .i64 x20_1 ∧ Aside0 (expr_consts.l0 kq x6_1 y152 (y152.length : Int) x20_1 = some (r1, r2)) ∧ Aside0 (kq ≤ k) ∧ Aside0 (Kd.R (Kd.int .i64) 3 w' w.heap.size (fun _ => True) v6 x6_1) ∧ Aside0 (Below w.heap.size w w'))
    case atStart => exact ⟨(([] : List Int)), (0), rq, H', ⟨Nat.le_refl _⟩, ⟨by first | exact Kd.R_nil _ _ _ _ _ | exact Kd.N_nil _ _ _ _ _ | exact Kd.V_nil _ _ _ _ _ | exact Kd.Q_nil _ _ _ _ _ | exact Kd.S_nil _ _ _ _ _⟩, ⟨bl⟩⟩
    case round =>
     clear H'
     try clear c1
     try clear c2
     try clear p2
     try clear c3
     try clear c3b0
     try clear c5
     try clear c5b0
     try clear c5b1
     try clear c6
     try clear c6b0
     try clear c6b1
     try clear p6
     try clear c7
     try clear q7
     try clear q07
     try clear q7
     obtain ⟨x6_1, x20_1, rfl, HA, HK1, HO_6, HB⟩ := hrel
     cases gk with
     | zero => exact absurd HA.out (by simp [expr_consts.l0])
     | succ k1 =>
      have H := HA.out
      clear HA
      simp only [expr_consts.l0] at H
      by_cases c8 : x20_1 < (y152.length : Int)
      ·
       rw [if_pos c8] at H
       have c8b0 : decide (x20_1 < (y152.length : Int)) = true := decide_eq_true c8
       clear c8
       by_cases c9 : 0 ≤ x20_1
       ·
        rw [if_pos c9] at H
        have c9b0 : decide (0 ≤ x20_1) = true := decide_eq_true c9
        clear c9
        by_cases c10 : x20_1 < (y152.length : Int)
        ·
         rw [if_pos c10] at H
         have c10b0 : decide (x20_1 < (y152.length : Int)) = true := decide_eq_true c10
         clear c10
         by_cases c11 : ((rd_T45 y152 x20_1).f0) = 1
         ·
          rw [if_pos c11] at H
          have c11b0 : (((rd_T45 y152 x20_1).f0) == 1) = true := beq_iff_eq.mpr c11
          have c11b1 : (((rd_T45 y152 x20_1).f0) != 1) = false := bne_eq_false_iff_eq.mpr c11
          clear c11
          by_cases c12 : x6_1.length < 17592186044416
          ·
           rw [if_pos c12] at H
           have LMc12 := Am c12
           clear c12
           obtain ⟨y158, hy158⟩ : ∃ y_ : List Int, y_ = (x6_1 ++ [(rd_T45 y152 x20_1).f1]) := ⟨_, rfl⟩
           replace H : (expr_consts.l0 k1 y158 y152 (y152.length : Int) (wrap64 (x20_1 + 1))) = some (r1, r2) := by first | (rw [hy158]; with_reducible exact H) | (have H2_ := (Option.bind_some _ _).symm.trans H; rw [hy158]; with_reducible exact H2_) | (have H2_ := (Option.bind_some _ _).symm.trans H; with_reducible exact H2_) | with_reducible exact H | (rw [hy158]; exact H) | exact H
           have Ny158 := Am hy158
           clear hy158
           have H' := Am H
           clear H
           have p156 : 0 ≤ (x20_1 : Int) := of_decide_eq_true az
           have q156 : x20_1 < (y152.length : Int) := of_decide_eq_true az
           obtain ⟨ad156, e156, hx156_0, hx156_1⟩ := at_T45 HR155.out x20_1 p156 q156
           cases e156
           replace hx156_0 := (HB.out.cell (World.block_lt_of_cell? w _ hx156_0)).trans hx156_0
           replace hx156_1 := (HB.out.cell (World.block_lt_of_cell? w _ hx156_1)).trans hx156_1
           replace p156 := eq_true p156
           replace q156 := eq_true q156
           go_wp2_with (first | ((with_reducible refine gate_dst (N := 8) rfl ?_); refine box_event ?hg (N := 8) ?hd (cs := #[.int .i64 0, .int .i64 0]) (t := 45) ?hr ?_; (case hd => rfl); (case hg => rfl); (case hr => first | (go_simp; done) | (go_simp; rfl)); intro gb157 hg w13 hbox hb; have n0_ := Am (Kd.R_below (kR HO_6) hb); have n1_ := Am (below_step (bl) hb); have n2_ := Am (hbox); have n3_ := Am ((by rw [hg]; exact (below_size (bl)) : w.heap.size ≤ gb157)); have n4_ := Am ((by rw [hg]; exact (below_size (bl)) : w.heap.size ≤ gb157)); clear HO_6; clear HB; have HO_6 := n0_; have HB := n1_; have BK157 := n2_; have GW157 := n3_; have GE157 := n4_; clear n0_ n1_ n2_ n3_ n4_; clear hb hbox hg; have hcz14_0 : w13.cell? ⟨gb157, 0, none⟩ = some (.int .i64 0) := (blk_cell BK157.out 0).trans rfl; have hcz14_1 : w13.cell? ⟨gb157, 1, none⟩ = some (.int .i64 0) := (blk_cell BK157.out 1).trans rfl; have hfz14_0 := blk_frozen BK157.out 0; have hfz14_1 := blk_frozen BK157.out 1) | ((with_reducible refine gate_builtin (b := .append) (xs := #[.tmp 27, .tmp 30]) rfl ?_); at_builtin; refine Kd.R_append (Kd.int .i64) (w0 := w) w.heap.size rfl (.tmp 27) (.tmp 30) 28 3 (.int .i64 0) 8 rfl Try.underlying28 info3 rfl (by decide) (by omega) u6 x6_1 ((rd_T45 y152 x20_1).f1) [.int .i64 ((rd_T45 y152 x20_1).f1)] (fun _ => True) (fun _ => False) rfl (by first | (go_simp; done) | (go_simp; rfl)) ?aP (fun _ hk => hk.elim) ?aF ?aO ?aB ?aS ?aL ?_; (case aP => exact rfl); (case aB => exact (by repeat (first | (with_reducible first | exact HB.out | apply below_alloc | apply pw_below_drewN | apply below_drew1 | refine below_set ?_ GE157.out) | exact HB.out))); (case aF => exact (fun _ _ => trivial)); (case aO => exact (by (with_reducible repeat (first | apply Kd.R_alloc | apply Kd.R_drewN | apply Kd.R_drew)); exact Kd.R_mono (Kd.R_far (p := ⟨gb157, 1, none⟩) (Kd.R_far (p := ⟨gb157, 0, none⟩) (Kd.R_types HO_6.out BK157.out (by decide)) (fun _ hk => hk.2) (.int .i64 ((rd_T45 y152 x20_1).f0))) (fun _ hk => hk.2) (.int .i64 ((rd_T45 y152 x20_1).f1))) (fun _ hk => trivial))); (case aS => exact (below_size (by repeat (first | (with_reducible first | exact HB.out | apply below_alloc | apply pw_below_drewN | apply below_drew1 | refine below_set ?_ GE157.out) | exact HB.out)))); (case aL => have := LMc12.out; omega); intro v159 w15 ho hb hg hat; rw [← Ny158.out] at ho; have n0_ := Am (blk_grown (g := gb157) (o := .cells #[.int .i64 ((rd_T45 y152 x20_1).f0), .int .i64 ((rd_T45 y152 x20_1).f1)] 45 (0, 0)) (by (with_reducible repeat (first | refine blk_drewN ?_ _ | refine blk_drew ?_ | refine blk_alloc ?_ _)); refine blk_put (cs := #[.int .i64 ((rd_T45 y152 x20_1).f0), .int .i64 0]) ?_ 1 _ rfl; (with_reducible repeat (first | refine blk_drewN ?_ _ | refine blk_drew ?_ | refine blk_alloc ?_ _)); refine blk_put (cs := #[.int .i64 0, .int .i64 0]) ?_ 0 _ rfl; (with_reducible repeat (first | refine blk_drewN ?_ _ | refine blk_drew ?_ | refine blk_alloc ?_ _)); exact BK157.out) hg (Kd.R_ne HO_6.out BK157.out (by decide))); have n1_ := Am (hb); have n2_ := Am (ho); clear BK157; clear HB; clear HO_6; have BK157 := n0_; have HB := n1_; have HO160 := n2_; clear n0_ n1_ n2_; clear ho hb hg hat))
           go_roundg k1
           case measure => have := HK1.out; omega
           case rel => exact ⟨(y158), (wrap64 (x20_1 + 1)), rq, H', ⟨by have := HK1.out; omega⟩, ⟨kR HO160⟩, ⟨by repeat (first | (with_reducible first | exact HB.out | apply below_alloc | apply pw_below_drewN | apply below_drew1 | refine below_set ?_ GE157.out) | exact HB.out)⟩⟩
          ·
           rw [if_neg c12] at H
           exact absurd H (by simp)
         ·
          rw [if_neg c11] at H
          have c11b0 : (((rd_T45 y152 x20_1).f0) == 1) = false := beq_eq_false_iff_ne.mpr c11
          have c11b1 : (((rd_T45 y152 x20_1).f0) != 1) = true := bne_iff_ne.mpr c11
          simp only [Option.some.injEq, Prod.mk.injEq] at H
          obtain ⟨rfl, rfl⟩ := H
          have p156 : 0 ≤ (x20_1 : Int) := of_decide_eq_true az
          have q156 : x20_1 < (y152.length : Int) := of_decide_eq_true az
          obtain ⟨ad156, e156, hx156_0, hx156_1⟩ := at_T45 HR155.out x20_1 p156 q156
          cases e156
          replace hx156_0 := (HB.out.cell (World.block_lt_of_cell? w _ hx156_0)).trans hx156_0
          replace hx156_1 := (HB.out.cell (World.block_lt_of_cell? w _ hx156_1)).trans hx156_1
          replace p156 := eq_true p156
          replace q156 := eq_true q156
          go_wp2_with (first | ((with_reducible refine gate_dst (N := 8) rfl ?_); refine box_event ?hg (N := 8) ?hd (cs := #[.int .i64 0, .int .i64 0]) (t := 45) ?hr ?_; (case hd => rfl); (case hg => rfl); (case hr => first | (go_simp; done) | (go_simp; rfl)); intro gb157 hg w16 hbox hb; have n0_ := Am (Kd.R_below (kR HO_6) hb); have n1_ := Am (below_step (bl) hb); have n2_ := Am (hbox); have n3_ := Am ((by rw [hg]; exact (below_size (bl)) : w.heap.size ≤ gb157)); have n4_ := Am ((by rw [hg]; exact (below_size (bl)) : w.heap.size ≤ gb157)); clear HO_6; clear HB; have HO_6 := n0_; have HB := n1_; have BK157 := n2_; have GW157 := n3_; have GE157 := n4_; clear n0_ n1_ n2_ n3_ n4_; clear hb hbox hg; have hcz17_0 : w16.cell? ⟨gb157, 0, none⟩ = some (.int .i64 0) := (blk_cell BK157.out 0).trans rfl; have hcz17_1 : w16.cell? ⟨gb157, 1, none⟩ = some (.int .i64 0) := (blk_cell BK157.out 1).trans rfl; have hfz17_0 := blk_frozen BK157.out 0; have hfz17_1 := blk_frozen BK157.out 1))
          go_ret2
          exact ⟨_, by first | rfl | (simp [errW_none, errW_some] <;> rfl) | (simp only [← hji4]; first | rfl | (simp [errW_none, errW_some] <;> rfl)) | (simp [*, errW_none, errW_some] <;> rfl), by first | exact Kd.R_nil _ _ _ _ _ | exact Kd.N_nil _ _ _ _ _ | exact Kd.V_nil _ _ _ _ _ | exact Kd.Q_nil _ _ _ _ _ | exact Kd.S_nil _ _ _ _ _, by repeat (first | (with_reducible first | exact HB.out | apply below_alloc | apply pw_below_drewN | apply below_drew1 | refine below_set ?_ GE157.out) | exact HB.out)⟩
        ·
         rw [if_neg c10] at H
         exact absurd H (by simp)
       ·
        rw [if_neg c9] at H
        exact absurd H (by simp)
      ·
       rw [if_neg c8] at H
       have c8b0 : decide (x20_1 < (y152.length : Int)) = false := decide_eq_false c8
       clear c8
       simp only [Option.some.injEq, Prod.mk.injEq] at H
       obtain ⟨rfl, rfl⟩ := H
       go_wp2
       go_ret2
       exact ⟨_, by first | rfl | (simp [errW_none, errW_some] <;> rfl) | (simp only [← hji4]; first | rfl | (simp [errW_none, errW_some] <;> rfl)) | (simp [*, errW_none, errW_some] <;> rfl), by (with_reducible repeat (first | apply Kd.R_alloc | apply Kd.R_drewN | apply Kd.R_drew)); exact HO_6.out, bl⟩
   ·
    rw [if_neg c6] at H
    exact absurd H (by simp)
  ·
   rw [if_neg c5] at H
   exact absurd H (by simp)

end Go.Proofs.Ythhnecbfcpmpbaa.PA
