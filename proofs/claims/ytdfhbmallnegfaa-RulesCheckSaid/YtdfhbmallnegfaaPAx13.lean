-- Written by a program (wip/tools/gprint.py: a patched copy of the kit's print) and by hand, for this claim
import Derived.Test.YtdfhbmallnegfaaPAx0
import Derived.Test.YtdfhbmallnegfaaPAx11
import Derived.Test.YtdfhbmallnegfaaPAx12
namespace Go.Proofs.Ytdfhbmallnegfaa.PA
open Go.RowKit Go.Proofs.YtdfhbmallnegfaaW.PrintWords Go.Proofs.YtdfhbmallnegfaaW.PrintLast Go.Proofs.YtdfhbmallnegfaaW.PrintMore
attribute [local go_sem] max2_int min2_int max_two min_two max_three min_three max_four min_four   -- for this text's walks alone
set_option linter.unusedVariables false
set_option linter.unusedSimpArgs false

/-! ### surmiseref05_rule: function 33 -/
mutual
def surmiseref05_rule.l0 : Nat → Int → Int → List ByteArray → List ByteArray → List Int → List (S38) → ByteArray → Int → List Int → List (S66) → List (S60) → Option (Int × Int × Int × Int)
 | 0, _, _, _, _, _, _, _, _, _, _, _ => none
 | k + 1, x1, x6, x461000, x461001, x461002, x461003, x464000, x464001, x464002, x464003, x464004 => if x6 < (x464002.length : Int) then (if 0 ≤ x6 then (if (rd x464002 x6) < 0 then (surmiseref05_rule.j1 k x1 x6 true x461000 x461001 x461002 x461003 x464000 x464001 x464002 x464003 x464004) else (surmiseref05_rule.j1 k x1 x6 (decide ((rd x464002 x6) ≥ (x461000.length : Int))) x461000 x461001 x461002 x461003 x464000 x464001 x464002 x464003 x464004)) else (none)) else (if (x464003.length : Int) > 4 then (some (4, x1, 8, 0)) else (surmiseref05_rule.l2 k x1 0 x461000 x461001 x461002 x461003 x464000 x464001 x464002 x464003 x464004))
def surmiseref05_rule.j1 : Nat → Int → Int → Bool → List ByteArray → List ByteArray → List Int → List (S38) → ByteArray → Int → List Int → List (S66) → List (S60) → Option (Int × Int × Int × Int)
 | 0, _, _, _, _, _, _, _, _, _, _, _, _ => none
 | k + 1, x1, x6, x40, x461000, x461001, x461002, x461003, x464000, x464001, x464002, x464003, x464004 => if x40 = true then (some (3, x1, 7, x6)) else (surmiseref05_rule.l1 k x1 x6 0 x461000 x461001 x461002 x461003 x464000 x464001 x464002 x464003 x464004)
def surmiseref05_rule.l1 : Nat → Int → Int → Int → List ByteArray → List ByteArray → List Int → List (S38) → ByteArray → Int → List Int → List (S66) → List (S60) → Option (Int × Int × Int × Int)
 | 0, _, _, _, _, _, _, _, _, _, _, _, _ => none
 | k + 1, x1, x6, x7, x461000, x461001, x461002, x461003, x464000, x464001, x464002, x464003, x464004 => if x7 < x6 then (if 0 ≤ x7 then (if x7 < (x464002.length : Int) then (if 0 ≤ x6 then (if x6 < (x464002.length : Int) then (if (rd x464002 x7) = (rd x464002 x6) then (some (9, x1, 7, x6)) else (surmiseref05_rule.l1 k x1 x6 (wrap64 (x7 + 1)) x461000 x461001 x461002 x461003 x464000 x464001 x464002 x464003 x464004)) else (none)) else (none)) else (none)) else (none)) else (surmiseref05_rule.l0 k x1 (wrap64 (x6 + 1)) x461000 x461001 x461002 x461003 x464000 x464001 x464002 x464003 x464004)
def surmiseref05_rule.l2 : Nat → Int → Int → List ByteArray → List ByteArray → List Int → List (S38) → ByteArray → Int → List Int → List (S66) → List (S60) → Option (Int × Int × Int × Int)
 | 0, _, _, _, _, _, _, _, _, _, _, _ => none
 | k + 1, x1, x8, x461000, x461001, x461002, x461003, x464000, x464001, x464002, x464003, x464004 => if x8 < (x464003.length : Int) then (if 0 ≤ x8 then ((surmiseref05_guard.f k ((rd_T66 x464003 x8).f0) ((rd_T66 x464003 x8).f1) x461000 x461001 x461002 x461003 x464001).bind fun t469 => (if t469 = 0 then (surmiseref05_rule.l2 k x1 (wrap64 (x8 + 1)) x461000 x461001 x461002 x461003 x464000 x464001 x464002 x464003 x464004) else (some (t469, x1, 8, x8)))) else (none)) else (if (x464004.length : Int) = 0 then (some (2, x1, 9, 0)) else (if (x464004.length : Int) > 3 then (some (4, x1, 9, 0)) else (surmiseref05_rule.l3 k x1 0 x461000 x461001 x461002 x461003 x464000 x464001 x464002 x464003 x464004)))
def surmiseref05_rule.l3 : Nat → Int → Int → List ByteArray → List ByteArray → List Int → List (S38) → ByteArray → Int → List Int → List (S66) → List (S60) → Option (Int × Int × Int × Int)
 | 0, _, _, _, _, _, _, _, _, _, _, _ => none
 | k + 1, x1, x10, x461000, x461001, x461002, x461003, x464000, x464001, x464002, x464003, x464004 => if x10 < (x464004.length : Int) then (if 0 ≤ x10 then ((surmiseref05_step.f k ((rd_T60 x464004 x10).f0) ((rd_T60 x464004 x10).f1) x461000 x461001 x461002 x461003 x464001).bind fun t471 => (if t471 = 0 then (surmiseref05_rule.l3 k x1 (wrap64 (x10 + 1)) x461000 x461001 x461002 x461003 x464000 x464001 x464002 x464003 x464004) else (some (t471, x1, 9, x10)))) else (none)) else (some (0, 0, 0, 0))
end
def surmiseref05_rule.f (k : Nat) (l0_0 : List ByteArray) (l0_1 : List ByteArray) (l0_2 : List Int) (l0_3 : List (S38)) (a1 : Int) : Option (Int × Int × Int × Int) := if 0 ≤ a1 then (if a1 < (l0_3.length : Int) then (surmiseref05_rule.l0 k a1 0 l0_0 l0_1 l0_2 l0_3 ((rd_T38 l0_3 a1).f0) ((rd_T38 l0_3 a1).f1) ((rd_T38 l0_3 a1).f2) ((rd_T38 l0_3 a1).f3) ((rd_T38 l0_3 a1).f4)) else (none)) else (none)
theorem surmiseref05_rule.mono_l : ∀ k, (∀ y0 y1 y2 y3 y4 y5 y6 y7 y8 y9 y10, LeO (surmiseref05_rule.l0 k y0 y1 y2 y3 y4 y5 y6 y7 y8 y9 y10) (surmiseref05_rule.l0 (k + 1) y0 y1 y2 y3 y4 y5 y6 y7 y8 y9 y10)) ∧ (∀ y0 y1 y2 y3 y4 y5 y6 y7 y8 y9 y10 y11, LeO (surmiseref05_rule.j1 k y0 y1 y2 y3 y4 y5 y6 y7 y8 y9 y10 y11) (surmiseref05_rule.j1 (k + 1) y0 y1 y2 y3 y4 y5 y6 y7 y8 y9 y10 y11)) ∧ (∀ y0 y1 y2 y3 y4 y5 y6 y7 y8 y9 y10 y11, LeO (surmiseref05_rule.l1 k y0 y1 y2 y3 y4 y5 y6 y7 y8 y9 y10 y11) (surmiseref05_rule.l1 (k + 1) y0 y1 y2 y3 y4 y5 y6 y7 y8 y9 y10 y11)) ∧ (∀ y0 y1 y2 y3 y4 y5 y6 y7 y8 y9 y10, LeO (surmiseref05_rule.l2 k y0 y1 y2 y3 y4 y5 y6 y7 y8 y9 y10) (surmiseref05_rule.l2 (k + 1) y0 y1 y2 y3 y4 y5 y6 y7 y8 y9 y10)) ∧ (∀ y0 y1 y2 y3 y4 y5 y6 y7 y8 y9 y10, LeO (surmiseref05_rule.l3 k y0 y1 y2 y3 y4 y5 y6 y7 y8 y9 y10) (surmiseref05_rule.l3 (k + 1) y0 y1 y2 y3 y4 y5 y6 y7 y8 y9 y10))
 | 0 => ⟨fun _ _ _ _ _ _ _ _ _ _ _ r h => by simp [surmiseref05_rule.l0] at h, fun _ _ _ _ _ _ _ _ _ _ _ _ r h => by simp [surmiseref05_rule.j1] at h, fun _ _ _ _ _ _ _ _ _ _ _ _ r h => by simp [surmiseref05_rule.l1] at h, fun _ _ _ _ _ _ _ _ _ _ _ r h => by simp [surmiseref05_rule.l2] at h, fun _ _ _ _ _ _ _ _ _ _ _ r h => by simp [surmiseref05_rule.l3] at h⟩
 | k + 1 => by
  obtain ⟨ih0, ih1, ih2, ih3, ih4⟩ := surmiseref05_rule.mono_l k
  refine ⟨?_, ?_, ?_, ?_, ?_⟩
  ·
   intro y0 y1 y2 y3 y4 y5 y6 y7 y8 y9 y10
   unfold surmiseref05_rule.l0
   repeat' first
   | (with_reducible exact ih0 _ _ _ _ _ _ _ _ _ _ _)
   | (with_reducible exact ih1 _ _ _ _ _ _ _ _ _ _ _ _)
   | (with_reducible exact ih2 _ _ _ _ _ _ _ _ _ _ _ _)
   | (with_reducible exact ih3 _ _ _ _ _ _ _ _ _ _ _)
   | (with_reducible exact ih4 _ _ _ _ _ _ _ _ _ _ _)
   | (with_reducible exact surmiseref05_guard.mono _ _ _ _ _ _ _ _)
   | (with_reducible exact surmiseref05_step.mono _ _ _ _ _ _ _ _)
   | (with_reducible exact LeO.refl _)
   | (with_reducible exact LeO.none _)
   | (with_reducible refine LeO.ite ?_ ?_)
   | (with_reducible refine LeO.bind ?_ (fun _ => ?_))
   | exact ih0 _ _ _ _ _ _ _ _ _ _ _
   | exact ih1 _ _ _ _ _ _ _ _ _ _ _ _
   | exact ih2 _ _ _ _ _ _ _ _ _ _ _ _
   | exact ih3 _ _ _ _ _ _ _ _ _ _ _
   | exact ih4 _ _ _ _ _ _ _ _ _ _ _
   | exact surmiseref05_guard.mono _ _ _ _ _ _ _ _
   | exact surmiseref05_step.mono _ _ _ _ _ _ _ _
   | exact LeO.none _
   | refine LeO.ite ?_ ?_
   | refine LeO.bind ?_ (fun _ => ?_)
  ·
   intro y0 y1 y2 y3 y4 y5 y6 y7 y8 y9 y10 y11
   unfold surmiseref05_rule.j1
   repeat' first
   | (with_reducible exact ih0 _ _ _ _ _ _ _ _ _ _ _)
   | (with_reducible exact ih1 _ _ _ _ _ _ _ _ _ _ _ _)
   | (with_reducible exact ih2 _ _ _ _ _ _ _ _ _ _ _ _)
   | (with_reducible exact ih3 _ _ _ _ _ _ _ _ _ _ _)
   | (with_reducible exact ih4 _ _ _ _ _ _ _ _ _ _ _)
   | (with_reducible exact surmiseref05_guard.mono _ _ _ _ _ _ _ _)
   | (with_reducible exact surmiseref05_step.mono _ _ _ _ _ _ _ _)
   | (with_reducible exact LeO.refl _)
   | (with_reducible exact LeO.none _)
   | (with_reducible refine LeO.ite ?_ ?_)
   | (with_reducible refine LeO.bind ?_ (fun _ => ?_))
   | exact ih0 _ _ _ _ _ _ _ _ _ _ _
   | exact ih1 _ _ _ _ _ _ _ _ _ _ _ _
   | exact ih2 _ _ _ _ _ _ _ _ _ _ _ _
   | exact ih3 _ _ _ _ _ _ _ _ _ _ _
   | exact ih4 _ _ _ _ _ _ _ _ _ _ _
   | exact surmiseref05_guard.mono _ _ _ _ _ _ _ _
   | exact surmiseref05_step.mono _ _ _ _ _ _ _ _
   | exact LeO.none _
   | refine LeO.ite ?_ ?_
   | refine LeO.bind ?_ (fun _ => ?_)
  ·
   intro y0 y1 y2 y3 y4 y5 y6 y7 y8 y9 y10 y11
   unfold surmiseref05_rule.l1
   repeat' first
   | (with_reducible exact ih0 _ _ _ _ _ _ _ _ _ _ _)
   | (with_reducible exact ih1 _ _ _ _ _ _ _ _ _ _ _ _)
   | (with_reducible exact ih2 _ _ _ _ _ _ _ _ _ _ _ _)
   | (with_reducible exact ih3 _ _ _ _ _ _ _ _ _ _ _)
   | (with_reducible exact ih4 _ _ _ _ _ _ _ _ _ _ _)
   | (with_reducible exact surmiseref05_guard.mono _ _ _ _ _ _ _ _)
   | (with_reducible exact surmiseref05_step.mono _ _ _ _ _ _ _ _)
   | (with_reducible exact LeO.refl _)
   | (with_reducible exact LeO.none _)
   | (with_reducible refine LeO.ite ?_ ?_)
   | (with_reducible refine LeO.bind ?_ (fun _ => ?_))
   | exact ih0 _ _ _ _ _ _ _ _ _ _ _
   | exact ih1 _ _ _ _ _ _ _ _ _ _ _ _
   | exact ih2 _ _ _ _ _ _ _ _ _ _ _ _
   | exact ih3 _ _ _ _ _ _ _ _ _ _ _
   | exact ih4 _ _ _ _ _ _ _ _ _ _ _
   | exact surmiseref05_guard.mono _ _ _ _ _ _ _ _
   | exact surmiseref05_step.mono _ _ _ _ _ _ _ _
   | exact LeO.none _
   | refine LeO.ite ?_ ?_
   | refine LeO.bind ?_ (fun _ => ?_)
  ·
   intro y0 y1 y2 y3 y4 y5 y6 y7 y8 y9 y10
   unfold surmiseref05_rule.l2
   repeat' first
   | (with_reducible exact ih0 _ _ _ _ _ _ _ _ _ _ _)
   | (with_reducible exact ih1 _ _ _ _ _ _ _ _ _ _ _ _)
   | (with_reducible exact ih2 _ _ _ _ _ _ _ _ _ _ _ _)
   | (with_reducible exact ih3 _ _ _ _ _ _ _ _ _ _ _)
   | (with_reducible exact ih4 _ _ _ _ _ _ _ _ _ _ _)
   | (with_reducible exact surmiseref05_guard.mono _ _ _ _ _ _ _ _)
   | (with_reducible exact surmiseref05_step.mono _ _ _ _ _ _ _ _)
   | (with_reducible exact LeO.refl _)
   | (with_reducible exact LeO.none _)
   | (with_reducible refine LeO.ite ?_ ?_)
   | (with_reducible refine LeO.bind ?_ (fun _ => ?_))
   | exact ih0 _ _ _ _ _ _ _ _ _ _ _
   | exact ih1 _ _ _ _ _ _ _ _ _ _ _ _
   | exact ih2 _ _ _ _ _ _ _ _ _ _ _ _
   | exact ih3 _ _ _ _ _ _ _ _ _ _ _
   | exact ih4 _ _ _ _ _ _ _ _ _ _ _
   | exact surmiseref05_guard.mono _ _ _ _ _ _ _ _
   | exact surmiseref05_step.mono _ _ _ _ _ _ _ _
   | exact LeO.none _
   | refine LeO.ite ?_ ?_
   | refine LeO.bind ?_ (fun _ => ?_)
  ·
   intro y0 y1 y2 y3 y4 y5 y6 y7 y8 y9 y10
   unfold surmiseref05_rule.l3
   repeat' first
   | (with_reducible exact ih0 _ _ _ _ _ _ _ _ _ _ _)
   | (with_reducible exact ih1 _ _ _ _ _ _ _ _ _ _ _ _)
   | (with_reducible exact ih2 _ _ _ _ _ _ _ _ _ _ _ _)
   | (with_reducible exact ih3 _ _ _ _ _ _ _ _ _ _ _)
   | (with_reducible exact ih4 _ _ _ _ _ _ _ _ _ _ _)
   | (with_reducible exact surmiseref05_guard.mono _ _ _ _ _ _ _ _)
   | (with_reducible exact surmiseref05_step.mono _ _ _ _ _ _ _ _)
   | (with_reducible exact LeO.refl _)
   | (with_reducible exact LeO.none _)
   | (with_reducible refine LeO.ite ?_ ?_)
   | (with_reducible refine LeO.bind ?_ (fun _ => ?_))
   | exact ih0 _ _ _ _ _ _ _ _ _ _ _
   | exact ih1 _ _ _ _ _ _ _ _ _ _ _ _
   | exact ih2 _ _ _ _ _ _ _ _ _ _ _ _
   | exact ih3 _ _ _ _ _ _ _ _ _ _ _
   | exact ih4 _ _ _ _ _ _ _ _ _ _ _
   | exact surmiseref05_guard.mono _ _ _ _ _ _ _ _
   | exact surmiseref05_step.mono _ _ _ _ _ _ _ _
   | exact LeO.none _
   | refine LeO.ite ?_ ?_
   | refine LeO.bind ?_ (fun _ => ?_)
theorem surmiseref05_rule.mono : ∀ a0 a1 a2 a3 a4 k, LeO (surmiseref05_rule.f k a0 a1 a2 a3 a4) (surmiseref05_rule.f (k + 1) a0 a1 a2 a3 a4) := by
 intro a0 a1 a2 a3 a4 k
 obtain ⟨ih0, ih1, ih2, ih3, ih4⟩ := surmiseref05_rule.mono_l k
 unfold surmiseref05_rule.f
 repeat' first
   | (with_reducible exact ih0 _ _ _ _ _ _ _ _ _ _ _)
   | (with_reducible exact ih1 _ _ _ _ _ _ _ _ _ _ _ _)
   | (with_reducible exact ih2 _ _ _ _ _ _ _ _ _ _ _ _)
   | (with_reducible exact ih3 _ _ _ _ _ _ _ _ _ _ _)
   | (with_reducible exact ih4 _ _ _ _ _ _ _ _ _ _ _)
   | (with_reducible exact surmiseref05_guard.mono _ _ _ _ _ _ _ _)
   | (with_reducible exact surmiseref05_step.mono _ _ _ _ _ _ _ _)
   | (with_reducible exact LeO.refl _)
   | (with_reducible exact LeO.none _)
   | (with_reducible refine LeO.ite ?_ ?_)
   | (with_reducible refine LeO.bind ?_ (fun _ => ?_))
   | exact ih0 _ _ _ _ _ _ _ _ _ _ _
   | exact ih1 _ _ _ _ _ _ _ _ _ _ _ _
   | exact ih2 _ _ _ _ _ _ _ _ _ _ _ _
   | exact ih3 _ _ _ _ _ _ _ _ _ _ _
   | exact ih4 _ _ _ _ _ _ _ _ _ _ _
   | exact surmiseref05_guard.mono _ _ _ _ _ _ _ _
   | exact surmiseref05_step.mono _ _ _ _ _ _ _ _
   | exact LeO.none _
   | refine LeO.ite ?_ ?_
   | refine LeO.bind ?_ (fun _ => ?_)
def surmiseref05_rule.T5 : Bool × List (List Nat × List Nat) := (true, [([], []), ([0], [0]), ([], []), ([1, 2], [1, 2]), ([3], [3]), ([4], [4]), ([5], [5]), ([6], [6]), ([7, 6], [6, 7]), ([6], [6]), ([8, 9, 6], [6, 8, 9]), ([10, 6], [6, 10]), ([6], [6]), ([12, 6], [6, 12]), ([13, 6], [6, 13]), ([11, 14, 6], [6, 11, 14]), ([6, 15], [6, 15])])
def surmiseref05_rule.B5 : List Nat := [0, 1, 0, 7, 15, 31, 63, 127, 255, 127, 1023, 2047, 127, 4223, 12415, 32767, 65535]
theorem surmiseref05_rule.tab5 : rtab .any (opsOf Try.f33 5) = surmiseref05_rule.T5 := by kernel_rfl
theorem surmiseref05_rule.bits5 : waitsOk surmiseref05_rule.T5.2 surmiseref05_rule.B5 = true := by kernel_rfl
def surmiseref05_rule.T10 : Bool × List (List Nat × List Nat) := (true, [([], []), ([0], [0]), ([], []), ([1, 2], [1, 2]), ([3], [3]), ([], []), ([5], [5]), ([], []), ([6, 7], [6, 7]), ([8], [8]), ([4, 9], [4, 9])])
def surmiseref05_rule.B10 : List Nat := [0, 1, 0, 7, 15, 0, 32, 0, 224, 480, 1023]
theorem surmiseref05_rule.tab10 : rtab .any (opsOf Try.f33 10) = surmiseref05_rule.T10 := by kernel_rfl
theorem surmiseref05_rule.bits10 : waitsOk surmiseref05_rule.T10.2 surmiseref05_rule.B10 = true := by kernel_rfl
def surmiseref05_rule.T17 : Bool × List (List Nat × List Nat) := (true, [([], []), ([0], [0]), ([], []), ([1, 2], [1, 2]), ([3], [3]), ([], []), ([], []), ([6], [6]), ([4, 5, 7], [4, 5, 7]), ([8, 8, 0, 1, 2, 3, 4, 5, 6, 7, 8], [8])])
def surmiseref05_rule.B17 : List Nat := [0, 1, 0, 7, 15, 0, 0, 64, 255, 511]
theorem surmiseref05_rule.tab17 : rtab .any (opsOf Try.f33 17) = surmiseref05_rule.T17 := by kernel_rfl
theorem surmiseref05_rule.bits17 : waitsOk surmiseref05_rule.T17.2 surmiseref05_rule.B17 = true := by kernel_rfl
def surmiseref05_rule.T27 : Bool × List (List Nat × List Nat) := (true, [([], []), ([0], [0]), ([], []), ([1, 2], [1, 2]), ([3], [3]), ([], []), ([], []), ([6], [6]), ([4, 5, 7], [4, 5, 7]), ([8, 8, 0, 1, 2, 3, 4, 5, 6, 7, 8], [8])])
def surmiseref05_rule.B27 : List Nat := [0, 1, 0, 7, 15, 0, 0, 64, 255, 511]
theorem surmiseref05_rule.tab27 : rtab .any (opsOf Try.f33 27) = surmiseref05_rule.T27 := by kernel_rfl
theorem surmiseref05_rule.bits27 : waitsOk surmiseref05_rule.T27.2 surmiseref05_rule.B27 = true := by kernel_rfl
set_option maxHeartbeats 8000000 in
set_option maxRecDepth 100000 in
theorem surmiseref05_rule.calls (k : Nat) (A0_0 : Option Addr) (c0_0 : Nat) (l0_0 : List ByteArray) (A0_1 : Option Addr) (c0_1 : Nat) (l0_1 : List ByteArray) (A0_2 : Option Addr) (c0_2 : Nat) (l0_2 : List Int) (A0_3 : Option Addr) (c0_3 : Nat) (l0_3 : List (S38)) (a1 : Int) (r1 : Int) (r2 : Int) (r3 : Int) (r4 : Int) (w : World) (hr0_0 : Kd.C Kd.string w A0_0 l0_0.length l0_0) (hc0_0 : l0_0.length ≤ c0_0) (hr0_1 : Kd.C Kd.string w A0_1 l0_1.length l0_1) (hc0_1 : l0_1.length ≤ c0_1) (hr0_2 : Kd.C (Kd.int .i64) w A0_2 l0_2.length l0_2) (hc0_2 : l0_2.length ≤ c0_2) (hr0_3 : Kd.C k38 w A0_3 l0_3.length l0_3) (hc0_3 : l0_3.length ≤ c0_3) (h : surmiseref05_rule.f k l0_0 l0_1 l0_2 l0_3 a1 = some (r1, r2, r3, r4)) :
  Calls Try.prog 33 #[.agg #[.slice A0_0 l0_0.length c0_0, .slice A0_1 l0_1.length c0_1, .slice A0_2 l0_2.length c0_2, .slice A0_3 l0_3.length c0_3], .int .i64 a1] w fun e w' => e = .returned (.agg #[.int .i64 r1, .int .i64 r2, .int .i64 r3, .int .i64 r4]) ∧ Below w.heap.size w w' := by
 have hu26 := Try.underlying26
 have hu30 := Try.underlying30
 have hu38 := Try.underlying38
 have hu66 := Try.underlying66
 have hu60 := Try.underlying60
 have HR0_0 := Am hr0_0
 have HC0_0 := Am hc0_0
 clear hr0_0 hc0_0
 have HR0_1 := Am hr0_1
 have HC0_1 := Am hc0_1
 clear hr0_1 hc0_1
 have HR0_2 := Am hr0_2
 have HC0_2 := Am hc0_2
 clear hr0_2 hc0_2
 have HR0_3 := Am hr0_3
 have HC0_3 := Am hc0_3
 clear hr0_3 hc0_3
 have HB := Am (Below.refl w.heap.size w)
 have H : (if 0 ≤ a1 then (if a1 < (l0_3.length : Int) then (surmiseref05_rule.l0 k a1 0 l0_0 l0_1 l0_2 l0_3 ((rd_T38 l0_3 a1).f0) ((rd_T38 l0_3 a1).f1) ((rd_T38 l0_3 a1).f2) ((rd_T38 l0_3 a1).f3) ((rd_T38 l0_3 a1).f4)) else (none)) else (none)) = some (r1, r2, r3, r4) := h
 clear h
 by_cases c3 : 0 ≤ a1
 ·
  rw [if_pos c3] at H
  have c3b0 : decide (0 ≤ a1) = true := decide_eq_true c3
  clear c3
  by_cases c4 : a1 < (l0_3.length : Int)
  ·
   rw [if_pos c4] at H
   have c4b0 : decide (a1 < (l0_3.length : Int)) = true := decide_eq_true c4
   clear c4
   have H' := Am H
   clear H
   go_enter Try.func33, Try.ntmps33
   go_wp2_with (first | ((with_reducible refine gate_dst (N := 2) rfl ?_); (try (refine gate_guard (by rfl) ?_; dsimp only)); refine bxe (N := 2) (cs := #[.slice A0_0 l0_0.length c0_0, .slice A0_1 l0_1.length c0_1, .slice A0_2 l0_2.length c0_2, .slice A0_3 l0_3.length c0_3]) (t := 26) ?_; intro gb460 hg w5 hbox hb; have n0_ := Am (below_step (bl) hb); have n1_ := Am (hbox); have n2_ := Am ((gE hg : w.heap.size ≤ gb460)); have n3_ := Am ((gE hg : w.heap.size ≤ gb460)); clear HB; have HB := n0_; have BK460 := n1_; have GW460 := n2_; have GE460 := n3_; clear n0_ n1_ n2_ n3_; clear hb hbox hg) | ((with_reducible refine gate_dst (N := 4) rfl ?_); (try (refine gate_guard (by rfl) ?_; dsimp only)); refine bxe (N := 4) (cs := #[.int .i64 0, .int .i64 0, .int .i64 0, .int .i64 0]) (t := 30) ?_; intro gb461 hg w6 hbox hb; have n0_ := Am (blk_below (kB BK460) hb); have n1_ := Am (below_step (bs) hb); have n2_ := Am (hbox); have n3_ := Am ((gE hg : w.heap.size ≤ gb461)); have n4_ := Am ((gE hg : w.heap.size ≤ gb461)); have n5_ := Am (nL hg BK460); have n6_ := Am (nG hg BK460); clear BK460; clear HB; have BK460 := n0_; have HB := n1_; have BK461 := n2_; have GW461 := n3_; have GE461 := n4_; have NB460_461 := n5_; have NB461_460 := n6_; clear n0_ n1_ n2_ n3_ n4_ n5_ n6_; clear hb hbox hg; have hnb7 := NB460_461.out; have hnc7 := NB461_460.out; have hcz8_0 := cz0 BK460.out; have hcz8_1 := cz1 BK460.out; have hcz8_2 := cz2 BK460.out; have hcz8_3 := cz3 BK460.out; have hfz8_0 := fz BK460 0; have hfz8_1 := fz BK460 1; have hfz8_2 := fz BK460 2; have hfz8_3 := fz BK460 3; have p462 : 0 ≤ (a1 : Int) := of_decide_eq_true az; have q462 : a1 < (l0_3.length : Int) := of_decide_eq_true az; obtain ⟨ad462, A462_2, c462_2, A462_3, c462_3, A462_4, c462_4, e462, hx462_0, hx462_1, hx462_2, hx462_3, hx462_4, hl462_2, hi462_2, hl462_3, hi462_3, hl462_4, hi462_4⟩ := at_T38 HR0_3.out a1 p462 q462; cases e462; replace hx462_0 := hX HB hx462_0; replace hx462_1 := hX HB hx462_1; replace hx462_2 := hX HB hx462_2; replace hx462_3 := hX HB hx462_3; replace hx462_4 := hX HB hx462_4; have HR462_2 := Am hi462_2; have HC462_2 := Am hl462_2; clear hi462_2 hl462_2; have HR462_3 := Am hi462_3; have HC462_3 := Am hl462_3; clear hi462_3 hl462_3; have HR462_4 := Am hi462_4; have HC462_4 := Am hl462_4; clear hi462_4 hl462_4; replace p462 := eq_true p462; replace q462 := eq_true q462) | ((with_reducible refine gate_dst (N := 5) rfl ?_); (try (refine gate_guard (by rfl) ?_; dsimp only)); refine bxe (N := 5) (cs := #[.string (⟨#[]⟩ : ByteArray), .int .i64 0, .slice none 0 0, .slice none 0 0, .slice none 0 0]) (t := 38) ?_; intro gb463 hg w9 hbox hb; have n0_ := Am (blk_below (kB BK460) hb); have n1_ := Am (blk_below (kB BK461) hb); have n2_ := Am (below_step (bs) hb); have n3_ := Am (hbox); have n4_ := Am ((gE hg : w.heap.size ≤ gb463)); have n5_ := Am ((gE hg : w.heap.size ≤ gb463)); have n6_ := Am (nL hg BK460); have n7_ := Am (nG hg BK460); have n8_ := Am (nL hg BK461); have n9_ := Am (nG hg BK461); clear BK460; clear BK461; clear HB; have BK460 := n0_; have BK461 := n1_; have HB := n2_; have BK463 := n3_; have GW463 := n4_; have GE463 := n5_; have NB460_463 := n6_; have NB463_460 := n7_; have NB461_463 := n8_; have NB463_461 := n9_; clear n0_ n1_ n2_ n3_ n4_ n5_ n6_ n7_ n8_ n9_; clear hb hbox hg; have hnb10 := NB463_460.out; have hnc10 := NB460_463.out; have hnb11 := NB463_461.out; have hnc11 := NB461_463.out; have hcz12_0 := cz0 BK463.out; have hcz12_1 := cz1 BK463.out; have hcz12_2 := cz2 BK463.out; have hcz12_3 := cz3 BK463.out; have hcz12_4 := cz4 BK463.out; have hfz12_0 := fz BK463 0; have hfz12_1 := fz BK463 1; have hfz12_2 := fz BK463 2; have hfz12_3 := fz BK463 3; have hfz12_4 := fz BK463 4))
   go_loopg [6] k (fun kq v6 w' => ∃ (x6_1 : Int) (x462000_1 : Int) (x462001_1 : Int) (x462002_1 : Int) (x462003_1 : Int), v6 = .int .i64 x6_1 ∧ Aside0 (surmiseref05_rule.l0 kq a1 x6_1 l0_0 l0_1 l0_2 l0_3 ((rd_T38 l0_3 a1).f0) ((rd_T38 l0_3 a1).f1) ((rd_T38 l0_3 a1).f2) ((rd_T38 l0_3 a1).f3) ((rd_T38 l0_3 a1).f4) = some (r1, r2, r3, r4)) ∧ Aside0 (kq ≤ k) ∧ Aside0 (w'.heap[gb460]? = some (.cells #[(.slice A0_0 l0_0.length c0_0), (.slice A0_1 l0_1.length c0_1), (.slice A0_2 l0_2.length c0_2), (.slice (some ad462) l0_3.length c0_3)] 26 (0, 0))) ∧ Aside0 (w'.heap[gb461]? = some (.cells #[.int .i64 x462000_1, .int .i64 x462001_1, .int .i64 x462002_1, .int .i64 x462003_1] 30 (0, 0))) ∧ Aside0 (w'.heap[gb463]? = some (.cells #[.string ((rd_T38 l0_3 a1).f0), .int .i64 ((rd_T38 l0_3 a1).f1), (.slice A462_2 ((rd_T38 l0_3 a1).f2).length c462_2), (.slice A462_3 ((rd_T38 l0_3 a1).f3).length c462_3), (.slice A462_4 ((rd_T38 l0_3 a1).f4).length c462_4)] 38 (0, 0))) ∧ Aside0 (Below w.heap.size w w'))
   case atStart => exact ⟨(0), (0), (0), (0), (0), rq, H', ⟨Nat.le_refl _⟩, ⟨kZ BK460⟩, ⟨kZ BK461⟩, ⟨by (with_reducible repeat (first | refine blk_drewN ?_ _ | refine blk_drew ?_ | refine blk_alloc ?_ _)); refine blk_put (cs := #[.string ((rd_T38 l0_3 a1).f0), .int .i64 ((rd_T38 l0_3 a1).f1), .slice A462_2 ((rd_T38 l0_3 a1).f2).length c462_2, .slice A462_3 ((rd_T38 l0_3 a1).f3).length c462_3, .slice none 0 0]) ?_ 4 _ rfl; (with_reducible repeat (first | refine blk_drewN ?_ _ | refine blk_drew ?_ | refine blk_alloc ?_ _)); refine blk_put (cs := #[.string ((rd_T38 l0_3 a1).f0), .int .i64 ((rd_T38 l0_3 a1).f1), .slice A462_2 ((rd_T38 l0_3 a1).f2).length c462_2, .slice none 0 0, .slice none 0 0]) ?_ 3 _ rfl; (with_reducible repeat (first | refine blk_drewN ?_ _ | refine blk_drew ?_ | refine blk_alloc ?_ _)); refine blk_put (cs := #[.string ((rd_T38 l0_3 a1).f0), .int .i64 ((rd_T38 l0_3 a1).f1), .slice none 0 0, .slice none 0 0, .slice none 0 0]) ?_ 2 _ rfl; (with_reducible repeat (first | refine blk_drewN ?_ _ | refine blk_drew ?_ | refine blk_alloc ?_ _)); refine blk_put (cs := #[.string ((rd_T38 l0_3 a1).f0), .int .i64 0, .slice none 0 0, .slice none 0 0, .slice none 0 0]) ?_ 1 _ rfl; (with_reducible repeat (first | refine blk_drewN ?_ _ | refine blk_drew ?_ | refine blk_alloc ?_ _)); refine blk_put (cs := #[.string (⟨#[]⟩ : ByteArray), .int .i64 0, .slice none 0 0, .slice none 0 0, .slice none 0 0]) ?_ 0 _ rfl; (with_reducible repeat (first | refine blk_drewN ?_ _ | refine blk_drew ?_ | refine blk_alloc ?_ _)); exact BK463.out⟩, ⟨bs⟩⟩
   case round =>
    clear H'
    try clear c1
    try clear p2
    try clear c3
    try clear c3b0
    try clear c4
    try clear c4b0
    try clear p4
    try clear q4
    try clear hx4
    try clear c7
    try clear c10
    try clear c11
    try clear hcz12_0
    try clear hcz12_1
    try clear hcz12_2
    try clear hcz12_3
    try clear hcz12_4
    try clear hcz8_0
    try clear hcz8_1
    try clear hcz8_2
    try clear hcz8_3
    try clear hfz12_0
    try clear hfz12_1
    try clear hfz12_2
    try clear hfz12_3
    try clear hfz12_4
    try clear hfz8_0
    try clear hfz8_1
    try clear hfz8_2
    try clear hfz8_3
    try clear hx462_0
    try clear hx462_1
    try clear hx462_2
    try clear hx462_3
    try clear hx462_4
    try clear p462
    try clear q462
    obtain ⟨x6_1, x462000_1, x462001_1, x462002_1, x462003_1, rfl, HA, HK1, BK460, BK461, BK463, HB⟩ := hrel
    cases gk with
    | zero => exact absurd HA.out (by simp [surmiseref05_rule.l0])
    | succ k1 =>
     have H := HA.out
     clear HA
     simp only [surmiseref05_rule.l0] at H
     by_cases c13 : x6_1 < (((rd_T38 l0_3 a1).f2).length : Int)
     ·
      rw [if_pos c13] at H
      have c13b0 : decide (x6_1 < (((rd_T38 l0_3 a1).f2).length : Int)) = true := decide_eq_true c13
      clear c13
      have HC14 := Am H
      clear H
      have hnb15 := NB463_460.out
      have hnc15 := NB460_463.out
      have hnb16 := NB463_461.out
      have hnc16 := NB461_463.out
      have hcz17_0 := cz0 BK463.out
      have hcz17_1 := cz1 BK463.out
      have hcz17_2 := cz2 BK463.out
      have hcz17_3 := cz3 BK463.out
      have hcz17_4 := cz4 BK463.out
      have hfz17_0 := fz BK463 0
      have hfz17_1 := fz BK463 1
      have hfz17_2 := fz BK463 2
      have hfz17_3 := fz BK463 3
      have hfz17_4 := fz BK463 4
      go_upto_region 5 with (fail)
      go_cut [40] (fun v40 wc => ∃ (kq : Nat) (x40_13 : Bool), v40 = .bool x40_13 ∧ Aside0 (surmiseref05_rule.j1 kq a1 x6_1 x40_13 l0_0 l0_1 l0_2 l0_3 ((rd_T38 l0_3 a1).f0) ((rd_T38 l0_3 a1).f1) ((rd_T38 l0_3 a1).f2) ((rd_T38 l0_3 a1).f3) ((rd_T38 l0_3 a1).f4) = some (r1, r2, r3, r4)) ∧ Aside0 (kq ≤ k1) ∧ Aside0 (wc.heap[gb460]? = some (.cells #[(.slice A0_0 l0_0.length c0_0), (.slice A0_1 l0_1.length c0_1), (.slice A0_2 l0_2.length c0_2), (.slice (some ad462) l0_3.length c0_3)] 26 (0, 0))) ∧ Aside0 (wc.heap[gb461]? = some (.cells #[.int .i64 x462000_1, .int .i64 x462001_1, .int .i64 x462002_1, .int .i64 x462003_1] 30 (0, 0))) ∧ Aside0 (wc.heap[gb463]? = some (.cells #[.string ((rd_T38 l0_3 a1).f0), .int .i64 ((rd_T38 l0_3 a1).f1), (.slice A462_2 ((rd_T38 l0_3 a1).f2).length c462_2), (.slice A462_3 ((rd_T38 l0_3 a1).f3).length c462_3), (.slice A462_4 ((rd_T38 l0_3 a1).f4).length c462_4)] 38 (0, 0))) ∧ Aside0 (Below w.heap.size w wc))
      case first =>
       have H := HC14.out
       clear HC14
       by_cases c18 : 0 ≤ x6_1
       ·
        rw [if_pos c18] at H
        have c18b0 : decide (0 ≤ x6_1) = true := decide_eq_true c18
        clear c18
        (first | rw [c18b0] | (simp only [i64_w, i32_w]; rw [c18b0]) | skip)
        by_cases c19 : (rd ((rd_T38 l0_3 a1).f2) x6_1) < 0
        ·
         rw [if_pos c19] at H
         have c19b0 : decide ((rd ((rd_T38 l0_3 a1).f2) x6_1) < 0) = true := decide_eq_true c19
         clear c19
         have H' := Am H
         clear H
         try go_wp2
         have n0_ := Am (blk_drew BK460.out)
         have n1_ := Am (blk_drew BK461.out)
         have n2_ := Am (blk_drew BK463.out)
         have n3_ := Am (below_drew1 HB.out)
         clear BK460
         clear BK461
         clear BK463
         clear HB
         have BK460 := n0_
         have BK461 := n1_
         have BK463 := n2_
         have HB := n3_
         clear n0_ n1_ n2_ n3_
         have p464 : 0 ≤ (x6_1 : Int) := of_decide_eq_true az
         have q464 : x6_1 < (((rd_T38 l0_3 a1).f2).length : Int) := of_decide_eq_true az
         obtain ⟨ad464, e464, hx464_0⟩ := Kd.at_int HR462_2.out x6_1 p464 q464
         have hw464_0 := hx464_0
         cases e464
         replace hx464_0 := hX HB hx464_0
         replace p464 := eq_true p464
         replace q464 := eq_true q464
         refine start_ (n := 17) (S := fun w' => w'.cell? ⟨gb463, 0, none⟩ = some (.string ((rd_T38 l0_3 a1).f0)) ∧ w'.cell? ⟨gb463, 1, none⟩ = some (.int .i64 ((rd_T38 l0_3 a1).f1)) ∧ w'.cell? ⟨gb463, 2, none⟩ = some (.slice (some ad464) ((rd_T38 l0_3 a1).f2).length c462_2) ∧ w'.cell? ⟨gb463, 3, none⟩ = some (.slice A462_3 ((rd_T38 l0_3 a1).f3).length c462_3) ∧ w'.cell? ⟨gb463, 4, none⟩ = some (.slice A462_4 ((rd_T38 l0_3 a1).f4).length c462_4) ∧ w'.cell? (ad464.add (x6_1).toNat) = some (.int .i64 (rd ((rd_T38 l0_3 a1).f2) x6_1))) (ds := []) #[false, false, false, false, false, false, false, false, false, false, false, false, false, false, false, false, false] (by kernel_rfl) rfl rfl ⟨(blk_cell BK463.out 0).trans rfl, (blk_cell BK463.out 1).trans rfl, (blk_cell BK463.out 2).trans rfl, (blk_cell BK463.out 3).trans rfl, (blk_cell BK463.out 4).trans rfl, ((HB.out.cell (World.block_lt_of_cell? w _ hw464_0)).trans hw464_0)⟩ (fun hHeld => ?_); refine with_tabW surmiseref05_rule.tab5 surmiseref05_rule.bits5 (fun HT_ HW_ => ?_)
         generalize wr.drew = w20 at BK460 BK461 BK463 HB hx464_0 hHeld ⊢
         refine pure_ (i := 0) (N := some 24) (v := ?_) (a' := ?_) #[true, false, false, false, false, false, false, false, false, false, false, false, false, false, false, false, false] rfl rfl (any_of HT_.out (by kernel_rfl)) (fun _ _ _ h => h) (Or.inl ⟨by rfl, ?_⟩) ?_ ?_
         rotate_left
         ·
          intro w'
          go_simp
          with_reducible rfl
         rotate_left
         ·
          simp only [Act.put, List.setIfInBounds_toArray, List.set_cons_zero, List.set_cons_succ, i64_w, i32_w]
          rfl
         refine pure_ (i := 2) (N := some 26) (v := ?_) (a' := ?_) #[true, false, true, false, false, false, false, false, false, false, false, false, false, false, false, false, false] rfl rfl (any_of HT_.out (by kernel_rfl)) (fun _ _ _ h => h) (Or.inl ⟨by rfl, ?_⟩) ?_ ?_
         rotate_left
         ·
          intro w'
          go_simp
          with_reducible rfl
         rotate_left
         ·
          simp only [Act.put, List.setIfInBounds_toArray, List.set_cons_zero, List.set_cons_succ, i64_w, i32_w]
          rfl
         refine take_ (i := 1) (N := some 25) (v := ?_) (a' := ?_) #[true, true, true, false, false, false, false, false, false, false, false, false, false, false, false, false, false] rfl rfl (take_ofW HT_.out HW_.out (by kernel_rfl)) (fun _ _ _ h => h) (Or.inl ⟨by rfl, ?_⟩) hHeld ?_ ?_
         rotate_left
         ·
          rintro w' ⟨s0, s1, s2, s3, s4, s5⟩
          go_simp
          with_reducible rfl
         rotate_left
         ·
          simp only [Act.put, List.setIfInBounds_toArray, List.set_cons_zero, List.set_cons_succ, i64_w, i32_w]
          rfl
         refine pure_ (i := 3) (N := some 27) (v := ?_) (a' := ?_) #[true, true, true, true, false, false, false, false, false, false, false, false, false, false, false, false, false] rfl rfl (any_of HT_.out (by kernel_rfl)) (fun _ _ _ h => h) (Or.inl ⟨by rfl, ?_⟩) ?_ ?_
         rotate_left
         ·
          intro w'
          go_simp
          with_reducible rfl
         rotate_left
         ·
          simp only [Act.put, List.setIfInBounds_toArray, List.set_cons_zero, List.set_cons_succ, i64_w, i32_w]
          rfl
         refine take_ (i := 4) (N := some 28) (v := ?_) (a' := ?_) #[true, true, true, true, true, false, false, false, false, false, false, false, false, false, false, false, false] rfl rfl (take_ofW HT_.out HW_.out (by kernel_rfl)) (fun _ _ _ h => h) (Or.inl ⟨by rfl, ?_⟩) hHeld ?_ ?_
         rotate_left
         ·
          rintro w' ⟨s0, s1, s2, s3, s4, s5⟩
          go_simp
          with_reducible rfl
         rotate_left
         ·
          simp only [Act.put, List.setIfInBounds_toArray, List.set_cons_zero, List.set_cons_succ, i64_w, i32_w]
          rfl
         refine pure_ (i := 5) (N := some 29) (v := ?_) (a' := ?_) #[true, true, true, true, true, true, false, false, false, false, false, false, false, false, false, false, false] rfl rfl (any_of HT_.out (by kernel_rfl)) (fun _ _ _ h => h) (Or.inl ⟨by rfl, ?_⟩) ?_ ?_
         rotate_left
         ·
          intro w'
          go_simp
          with_reducible rfl
         rotate_left
         ·
          simp only [Act.put, List.setIfInBounds_toArray, List.set_cons_zero, List.set_cons_succ, i64_w, i32_w]
          rfl
         refine pure_ (i := 6) (N := some 30) (v := ?_) (a' := ?_) #[true, true, true, true, true, true, true, false, false, false, false, false, false, false, false, false, false] rfl rfl (any_of HT_.out (by kernel_rfl)) (fun _ _ _ h => h) (Or.inl ⟨by rfl, ?_⟩) ?_ ?_
         rotate_left
         ·
          intro w'
          go_simp
          with_reducible rfl
         rotate_left
         ·
          simp only [Act.put, List.setIfInBounds_toArray, List.set_cons_zero, List.set_cons_succ, i64_w, i32_w]
          rfl
         refine pure_ (i := 7) (N := some 31) (v := undef) (a' := ?_) #[true, true, true, true, true, true, true, true, false, false, false, false, false, false, false, false, false] rfl rfl (any_of HT_.out (by kernel_rfl)) (fun _ _ _ h => h) (Or.inr ⟨by rfl, rfl⟩) ?_ ?_
         rotate_left
         ·
          simp only [Act.put, List.setIfInBounds_toArray, List.set_cons_zero, List.set_cons_succ, i64_w, i32_w]
          rfl
         refine pure_ (i := 8) (N := some 32) (v := undef) (a' := ?_) #[true, true, true, true, true, true, true, true, true, false, false, false, false, false, false, false, false] rfl rfl (any_of HT_.out (by kernel_rfl)) (fun _ _ _ h => h) (Or.inr ⟨by rfl, rfl⟩) ?_ ?_
         rotate_left
         ·
          simp only [Act.put, List.setIfInBounds_toArray, List.set_cons_zero, List.set_cons_succ, i64_w, i32_w]
          rfl
         refine pure_ (i := 9) (N := some 33) (v := undef) (a' := ?_) #[true, true, true, true, true, true, true, true, true, true, false, false, false, false, false, false, false] rfl rfl (any_of HT_.out (by kernel_rfl)) (fun _ _ _ h => h) (Or.inr ⟨by rfl, rfl⟩) ?_ ?_
         rotate_left
         ·
          simp only [Act.put, List.setIfInBounds_toArray, List.set_cons_zero, List.set_cons_succ, i64_w, i32_w]
          rfl
         refine pure_ (i := 10) (N := some 34) (v := undef) (a' := ?_) #[true, true, true, true, true, true, true, true, true, true, true, false, false, false, false, false, false] rfl rfl (any_of HT_.out (by kernel_rfl)) (fun _ _ _ h => h) (Or.inr ⟨by rfl, rfl⟩) ?_ ?_
         rotate_left
         ·
          simp only [Act.put, List.setIfInBounds_toArray, List.set_cons_zero, List.set_cons_succ, i64_w, i32_w]
          rfl
         refine pure_ (i := 11) (N := some 35) (v := undef) (a' := ?_) #[true, true, true, true, true, true, true, true, true, true, true, true, false, false, false, false, false] rfl rfl (any_of HT_.out (by kernel_rfl)) (fun _ _ _ h => h) (Or.inr ⟨by rfl, rfl⟩) ?_ ?_
         rotate_left
         ·
          simp only [Act.put, List.setIfInBounds_toArray, List.set_cons_zero, List.set_cons_succ, i64_w, i32_w]
          rfl
         refine pure_ (i := 12) (N := some 36) (v := undef) (a' := ?_) #[true, true, true, true, true, true, true, true, true, true, true, true, true, false, false, false, false] rfl rfl (any_of HT_.out (by kernel_rfl)) (fun _ _ _ h => h) (Or.inr ⟨by rfl, rfl⟩) ?_ ?_
         rotate_left
         ·
          simp only [Act.put, List.setIfInBounds_toArray, List.set_cons_zero, List.set_cons_succ, i64_w, i32_w]
          rfl
         refine pure_ (i := 13) (N := some 37) (v := undef) (a' := ?_) #[true, true, true, true, true, true, true, true, true, true, true, true, true, true, false, false, false] rfl rfl (any_of HT_.out (by kernel_rfl)) (fun _ _ _ h => h) (Or.inr ⟨by rfl, rfl⟩) ?_ ?_
         rotate_left
         ·
          simp only [Act.put, List.setIfInBounds_toArray, List.set_cons_zero, List.set_cons_succ, i64_w, i32_w]
          rfl
         refine pure_ (i := 14) (N := some 38) (v := undef) (a' := ?_) #[true, true, true, true, true, true, true, true, true, true, true, true, true, true, true, false, false] rfl rfl (any_of HT_.out (by kernel_rfl)) (fun _ _ _ h => h) (Or.inr ⟨by rfl, rfl⟩) ?_ ?_
         rotate_left
         ·
          simp only [Act.put, List.setIfInBounds_toArray, List.set_cons_zero, List.set_cons_succ, i64_w, i32_w]
          rfl
         refine pure_ (i := 15) (N := some 39) (v := undef) (a' := ?_) #[true, true, true, true, true, true, true, true, true, true, true, true, true, true, true, true, false] rfl rfl (any_of HT_.out (by kernel_rfl)) (fun _ _ _ h => h) (Or.inr ⟨by rfl, rfl⟩) ?_ ?_
         rotate_left
         ·
          simp only [Act.put, List.setIfInBounds_toArray, List.set_cons_zero, List.set_cons_succ, i64_w, i32_w]
          rfl
         refine pure_ (i := 16) (N := some 40) (v := ?_) (a' := ?_) #[true, true, true, true, true, true, true, true, true, true, true, true, true, true, true, true, true] rfl rfl (any_of HT_.out (by kernel_rfl)) (fun _ _ _ h => h) (Or.inl ⟨by rfl, ?_⟩) ?_ ?_
         rotate_left
         ·
          intro w'
          go_simp
          with_reducible rfl
         rotate_left
         ·
          simp only [Act.put, List.setIfInBounds_toArray, List.set_cons_zero, List.set_cons_succ, i64_w, i32_w]
          rfl
         refine done_ (done_of HT_.out (by kernel_rfl)) ?_
         try go_wp2
         go_meet
         case rel => exact ⟨_, (true), rq, H', ⟨by have := HK1.out; first | omega | exact Nat.le_refl _⟩, ⟨kB BK460⟩, ⟨kB BK461⟩, ⟨kB BK463⟩, ⟨bs⟩⟩
        ·
         rw [if_neg c19] at H
         have c19b0 : decide ((rd ((rd_T38 l0_3 a1).f2) x6_1) < 0) = false := decide_eq_false c19
         clear c19
         have H' := Am H
         clear H
         try go_wp2
         have n0_ := Am (blk_drew BK460.out)
         have n1_ := Am (blk_drew BK461.out)
         have n2_ := Am (blk_drew BK463.out)
         have n3_ := Am (below_drew1 HB.out)
         clear BK460
         clear BK461
         clear BK463
         clear HB
         have BK460 := n0_
         have BK461 := n1_
         have BK463 := n2_
         have HB := n3_
         clear n0_ n1_ n2_ n3_
         have p464 : 0 ≤ (x6_1 : Int) := of_decide_eq_true az
         have q464 : x6_1 < (((rd_T38 l0_3 a1).f2).length : Int) := of_decide_eq_true az
         obtain ⟨ad464, e464, hx464_0⟩ := Kd.at_int HR462_2.out x6_1 p464 q464
         have hw464_0 := hx464_0
         cases e464
         replace hx464_0 := hX HB hx464_0
         replace p464 := eq_true p464
         replace q464 := eq_true q464
         have p465 : 0 ≤ (x6_1 : Int) := of_decide_eq_true az
         have q465 : x6_1 < (((rd_T38 l0_3 a1).f2).length : Int) := of_decide_eq_true az
         obtain ⟨ad465, e465, hx465_0⟩ := Kd.at_int HR462_2.out x6_1 p465 q465
         have hw465_0 := hx465_0
         obtain rfl : ad464 = ad465 := (by injection e465)
         replace hx465_0 := hX HB hx465_0
         replace p465 := eq_true p465
         replace q465 := eq_true q465
         refine start_ (n := 17) (S := fun w' => w'.cell? ⟨gb463, 0, none⟩ = some (.string ((rd_T38 l0_3 a1).f0)) ∧ w'.cell? ⟨gb463, 1, none⟩ = some (.int .i64 ((rd_T38 l0_3 a1).f1)) ∧ w'.cell? ⟨gb463, 2, none⟩ = some (.slice (some ad464) ((rd_T38 l0_3 a1).f2).length c462_2) ∧ w'.cell? ⟨gb463, 3, none⟩ = some (.slice A462_3 ((rd_T38 l0_3 a1).f3).length c462_3) ∧ w'.cell? ⟨gb463, 4, none⟩ = some (.slice A462_4 ((rd_T38 l0_3 a1).f4).length c462_4) ∧ w'.cell? ⟨gb460, 0, none⟩ = some (.slice A0_0 l0_0.length c0_0) ∧ w'.cell? ⟨gb460, 1, none⟩ = some (.slice A0_1 l0_1.length c0_1) ∧ w'.cell? ⟨gb460, 2, none⟩ = some (.slice A0_2 l0_2.length c0_2) ∧ w'.cell? ⟨gb460, 3, none⟩ = some (.slice (some ad462) l0_3.length c0_3) ∧ w'.cell? (ad464.add (x6_1).toNat) = some (.int .i64 (rd ((rd_T38 l0_3 a1).f2) x6_1)) ∧ w'.cell? (ad464.add (x6_1).toNat) = some (.int .i64 (rd ((rd_T38 l0_3 a1).f2) x6_1))) (ds := []) #[false, false, false, false, false, false, false, false, false, false, false, false, false, false, false, false, false] (by kernel_rfl) rfl rfl ⟨(blk_cell BK463.out 0).trans rfl, (blk_cell BK463.out 1).trans rfl, (blk_cell BK463.out 2).trans rfl, (blk_cell BK463.out 3).trans rfl, (blk_cell BK463.out 4).trans rfl, (blk_cell BK460.out 0).trans rfl, (blk_cell BK460.out 1).trans rfl, (blk_cell BK460.out 2).trans rfl, (blk_cell BK460.out 3).trans rfl, ((HB.out.cell (World.block_lt_of_cell? w _ hw464_0)).trans hw464_0), ((HB.out.cell (World.block_lt_of_cell? w _ hw465_0)).trans hw465_0)⟩ (fun hHeld => ?_); refine with_tabW surmiseref05_rule.tab5 surmiseref05_rule.bits5 (fun HT_ HW_ => ?_)
         generalize wr.drew = w21 at BK460 BK461 BK463 HB hx464_0 hx465_0 hHeld ⊢
         refine pure_ (i := 0) (N := some 24) (v := ?_) (a' := ?_) #[true, false, false, false, false, false, false, false, false, false, false, false, false, false, false, false, false] rfl rfl (any_of HT_.out (by kernel_rfl)) (fun _ _ _ h => h) (Or.inl ⟨by rfl, ?_⟩) ?_ ?_
         rotate_left
         ·
          intro w'
          go_simp
          with_reducible rfl
         rotate_left
         ·
          simp only [Act.put, List.setIfInBounds_toArray, List.set_cons_zero, List.set_cons_succ, i64_w, i32_w]
          rfl
         refine pure_ (i := 2) (N := some 26) (v := ?_) (a' := ?_) #[true, false, true, false, false, false, false, false, false, false, false, false, false, false, false, false, false] rfl rfl (any_of HT_.out (by kernel_rfl)) (fun _ _ _ h => h) (Or.inl ⟨by rfl, ?_⟩) ?_ ?_
         rotate_left
         ·
          intro w'
          go_simp
          with_reducible rfl
         rotate_left
         ·
          simp only [Act.put, List.setIfInBounds_toArray, List.set_cons_zero, List.set_cons_succ, i64_w, i32_w]
          rfl
         refine take_ (i := 1) (N := some 25) (v := ?_) (a' := ?_) #[true, true, true, false, false, false, false, false, false, false, false, false, false, false, false, false, false] rfl rfl (take_ofW HT_.out HW_.out (by kernel_rfl)) (fun _ _ _ h => h) (Or.inl ⟨by rfl, ?_⟩) hHeld ?_ ?_
         rotate_left
         ·
          rintro w' ⟨s0, s1, s2, s3, s4, s5, s6, s7, s8, s9, s10⟩
          go_simp
          with_reducible rfl
         rotate_left
         ·
          simp only [Act.put, List.setIfInBounds_toArray, List.set_cons_zero, List.set_cons_succ, i64_w, i32_w]
          rfl
         refine pure_ (i := 3) (N := some 27) (v := ?_) (a' := ?_) #[true, true, true, true, false, false, false, false, false, false, false, false, false, false, false, false, false] rfl rfl (any_of HT_.out (by kernel_rfl)) (fun _ _ _ h => h) (Or.inl ⟨by rfl, ?_⟩) ?_ ?_
         rotate_left
         ·
          intro w'
          go_simp
          with_reducible rfl
         rotate_left
         ·
          simp only [Act.put, List.setIfInBounds_toArray, List.set_cons_zero, List.set_cons_succ, i64_w, i32_w]
          rfl
         refine take_ (i := 4) (N := some 28) (v := ?_) (a' := ?_) #[true, true, true, true, true, false, false, false, false, false, false, false, false, false, false, false, false] rfl rfl (take_ofW HT_.out HW_.out (by kernel_rfl)) (fun _ _ _ h => h) (Or.inl ⟨by rfl, ?_⟩) hHeld ?_ ?_
         rotate_left
         ·
          rintro w' ⟨s0, s1, s2, s3, s4, s5, s6, s7, s8, s9, s10⟩
          go_simp
          with_reducible rfl
         rotate_left
         ·
          simp only [Act.put, List.setIfInBounds_toArray, List.set_cons_zero, List.set_cons_succ, i64_w, i32_w]
          rfl
         refine pure_ (i := 5) (N := some 29) (v := ?_) (a' := ?_) #[true, true, true, true, true, true, false, false, false, false, false, false, false, false, false, false, false] rfl rfl (any_of HT_.out (by kernel_rfl)) (fun _ _ _ h => h) (Or.inl ⟨by rfl, ?_⟩) ?_ ?_
         rotate_left
         ·
          intro w'
          go_simp
          with_reducible rfl
         rotate_left
         ·
          simp only [Act.put, List.setIfInBounds_toArray, List.set_cons_zero, List.set_cons_succ, i64_w, i32_w]
          rfl
         refine pure_ (i := 6) (N := some 30) (v := ?_) (a' := ?_) #[true, true, true, true, true, true, true, false, false, false, false, false, false, false, false, false, false] rfl rfl (any_of HT_.out (by kernel_rfl)) (fun _ _ _ h => h) (Or.inl ⟨by rfl, ?_⟩) ?_ ?_
         rotate_left
         ·
          intro w'
          go_simp
          with_reducible rfl
         rotate_left
         ·
          simp only [Act.put, List.setIfInBounds_toArray, List.set_cons_zero, List.set_cons_succ, i64_w, i32_w]
          rfl
         refine pure_ (i := 7) (N := some 31) (v := ?_) (a' := ?_) #[true, true, true, true, true, true, true, true, false, false, false, false, false, false, false, false, false] rfl rfl (any_of HT_.out (by kernel_rfl)) (fun _ _ _ h => h) (Or.inl ⟨by rfl, ?_⟩) ?_ ?_
         rotate_left
         ·
          intro w'
          go_simp
          with_reducible rfl
         rotate_left
         ·
          simp only [Act.put, List.setIfInBounds_toArray, List.set_cons_zero, List.set_cons_succ, i64_w, i32_w]
          rfl
         refine pure_ (i := 9) (N := some 33) (v := ?_) (a' := ?_) #[true, true, true, true, true, true, true, true, false, true, false, false, false, false, false, false, false] rfl rfl (any_of HT_.out (by kernel_rfl)) (fun _ _ _ h => h) (Or.inl ⟨by rfl, ?_⟩) ?_ ?_
         rotate_left
         ·
          intro w'
          go_simp
          with_reducible rfl
         rotate_left
         ·
          simp only [Act.put, List.setIfInBounds_toArray, List.set_cons_zero, List.set_cons_succ, i64_w, i32_w]
          rfl
         refine pure_ (i := 12) (N := some 36) (v := ?_) (a' := ?_) #[true, true, true, true, true, true, true, true, false, true, false, false, true, false, false, false, false] rfl rfl (any_of HT_.out (by kernel_rfl)) (fun _ _ _ h => h) (Or.inl ⟨by rfl, ?_⟩) ?_ ?_
         rotate_left
         ·
          intro w'
          go_simp
          with_reducible rfl
         rotate_left
         ·
          simp only [Act.put, List.setIfInBounds_toArray, List.set_cons_zero, List.set_cons_succ, i64_w, i32_w]
          rfl
         refine take_ (i := 8) (N := some 32) (v := ?_) (a' := ?_) #[true, true, true, true, true, true, true, true, true, true, false, false, true, false, false, false, false] rfl rfl (take_ofW HT_.out HW_.out (by kernel_rfl)) (fun _ _ _ h => h) (Or.inl ⟨by rfl, ?_⟩) hHeld ?_ ?_
         rotate_left
         ·
          rintro w' ⟨s0, s1, s2, s3, s4, s5, s6, s7, s8, s9, s10⟩
          go_simp
          with_reducible rfl
         rotate_left
         ·
          simp only [Act.put, List.setIfInBounds_toArray, List.set_cons_zero, List.set_cons_succ, i64_w, i32_w]
          rfl
         refine pure_ (i := 10) (N := some 34) (v := ?_) (a' := ?_) #[true, true, true, true, true, true, true, true, true, true, true, false, true, false, false, false, false] rfl rfl (any_of HT_.out (by kernel_rfl)) (fun _ _ _ h => h) (Or.inl ⟨by rfl, ?_⟩) ?_ ?_
         rotate_left
         ·
          intro w'
          go_simp
          with_reducible rfl
         rotate_left
         ·
          simp only [Act.put, List.setIfInBounds_toArray, List.set_cons_zero, List.set_cons_succ, i64_w, i32_w]
          rfl
         refine take_ (i := 11) (N := some 35) (v := ?_) (a' := ?_) #[true, true, true, true, true, true, true, true, true, true, true, true, true, false, false, false, false] rfl rfl (take_ofW HT_.out HW_.out (by kernel_rfl)) (fun _ _ _ h => h) (Or.inl ⟨by rfl, ?_⟩) hHeld ?_ ?_
         rotate_left
         ·
          rintro w' ⟨s0, s1, s2, s3, s4, s5, s6, s7, s8, s9, s10⟩
          go_simp
          with_reducible rfl
         rotate_left
         ·
          simp only [Act.put, List.setIfInBounds_toArray, List.set_cons_zero, List.set_cons_succ, i64_w, i32_w]
          rfl
         refine take_ (i := 13) (N := some 37) (v := ?_) (a' := ?_) #[true, true, true, true, true, true, true, true, true, true, true, true, true, true, false, false, false] rfl rfl (take_ofW HT_.out HW_.out (by kernel_rfl)) (fun _ _ _ h => h) (Or.inl ⟨by rfl, ?_⟩) hHeld ?_ ?_
         rotate_left
         ·
          rintro w' ⟨s0, s1, s2, s3, s4, s5, s6, s7, s8, s9, s10⟩
          go_simp
          with_reducible rfl
         rotate_left
         ·
          simp only [Act.put, List.setIfInBounds_toArray, List.set_cons_zero, List.set_cons_succ, i64_w, i32_w]
          rfl
         refine pure_ (i := 14) (N := some 38) (v := ?_) (a' := ?_) #[true, true, true, true, true, true, true, true, true, true, true, true, true, true, true, false, false] rfl rfl (any_of HT_.out (by kernel_rfl)) (fun _ _ _ h => h) (Or.inl ⟨by rfl, ?_⟩) ?_ ?_
         rotate_left
         ·
          intro w'
          go_simp
          with_reducible rfl
         rotate_left
         ·
          simp only [Act.put, List.setIfInBounds_toArray, List.set_cons_zero, List.set_cons_succ, i64_w, i32_w]
          rfl
         refine pure_ (i := 15) (N := some 39) (v := ?_) (a' := ?_) #[true, true, true, true, true, true, true, true, true, true, true, true, true, true, true, true, false] rfl rfl (any_of HT_.out (by kernel_rfl)) (fun _ _ _ h => h) (Or.inl ⟨by rfl, ?_⟩) ?_ ?_
         rotate_left
         ·
          intro w'
          go_simp
          with_reducible rfl
         rotate_left
         ·
          simp only [Act.put, List.setIfInBounds_toArray, List.set_cons_zero, List.set_cons_succ, i64_w, i32_w]
          rfl
         refine pure_ (i := 16) (N := some 40) (v := ?_) (a' := ?_) #[true, true, true, true, true, true, true, true, true, true, true, true, true, true, true, true, true] rfl rfl (any_of HT_.out (by kernel_rfl)) (fun _ _ _ h => h) (Or.inl ⟨by rfl, ?_⟩) ?_ ?_
         rotate_left
         ·
          intro w'
          go_simp
          with_reducible rfl
         rotate_left
         ·
          simp only [Act.put, List.setIfInBounds_toArray, List.set_cons_zero, List.set_cons_succ, i64_w, i32_w]
          rfl
         refine done_ (done_of HT_.out (by kernel_rfl)) ?_
         try go_wp2
         go_meet
         case rel => exact ⟨_, (decide ((rd ((rd_T38 l0_3 a1).f2) x6_1) ≥ (l0_0.length : Int))), rq, H', ⟨by have := HK1.out; first | omega | exact Nat.le_refl _⟩, ⟨kB BK460⟩, ⟨kB BK461⟩, ⟨kB BK463⟩, ⟨bs⟩⟩
       ·
        rw [if_neg c18] at H
        exact absurd H (by simp)
      case rest =>
       clear HC14
       try clear c1
       try clear p2
       try clear c3
       try clear c3b0
       try clear c4
       try clear c4b0
       try clear p4
       try clear q4
       try clear hx4
       try clear c7
       try clear c10
       try clear c11
       try clear c13
       try clear c13b0
       try clear c15
       try clear c16
       try clear c18
       try clear c18b0
       try clear c19
       try clear c19b0
       try clear hcz12_0
       try clear hcz12_1
       try clear hcz12_2
       try clear hcz12_3
       try clear hcz12_4
       try clear hcz17_0
       try clear hcz17_1
       try clear hcz17_2
       try clear hcz17_3
       try clear hcz17_4
       try clear hcz8_0
       try clear hcz8_1
       try clear hcz8_2
       try clear hcz8_3
       try clear hfz12_0
       try clear hfz12_1
       try clear hfz12_2
       try clear hfz12_3
       try clear hfz12_4
       try clear hfz17_0
       try clear hfz17_1
       try clear hfz17_2
       try clear hfz17_3
       try clear hfz17_4
       try clear hfz8_0
       try clear hfz8_1
       try clear hfz8_2
       try clear hfz8_3
       try clear hx462_0
       try clear hx462_1
       try clear hx462_2
       try clear hx462_3
       try clear hx462_4
       try clear hx464_0
       try clear hx465_0
       try clear p2
       try clear p4
       try clear p462
       try clear p464
       try clear p465
       try clear q4
       try clear q462
       try clear q464
       try clear q465
       obtain ⟨kq, x40_13, rfl, HA, HJ13, BK460, BK461, BK463, HB⟩ := hcut
       cases kq with
       | zero => exact absurd HA.out (by simp [surmiseref05_rule.j1])
       | succ kj13 =>
        have H := HA.out
        clear HA
        simp only [surmiseref05_rule.j1] at H
        by_cases c22 : x40_13 = true
        ·
         subst c22
         have H1 : (some (3, a1, 7, x6_1)) = some (r1, r2, r3, r4) := by rw [if_pos rfl] at H; exact H
         clear H
         have H := H1
         clear H1
         simp only [Option.some.injEq, Prod.mk.injEq] at H
         obtain ⟨rfl, rfl, rfl, rfl⟩ := H
         have hnb23 := NB461_460.out
         have hnc23 := NB460_461.out
         have hnb24 := NB461_463.out
         have hnc24 := NB463_461.out
         have hcz25_0 := cz0 BK461.out
         have hcz25_1 := cz1 BK461.out
         have hcz25_2 := cz2 BK461.out
         have hcz25_3 := cz3 BK461.out
         have hfz25_0 := fz BK461 0
         have hfz25_1 := fz BK461 1
         have hfz25_2 := fz BK461 2
         have hfz25_3 := fz BK461 3
         go_wp2
         refine bodyPost_ret (results_cell_row rfl _ _ gb461 30 #[.int .i64 3, .int .i64 a1, .int .i64 7, .int .i64 x6_1] (0, 0) _ rfl (by (with_reducible repeat (first | refine blk_drewN ?_ _ | refine blk_drew ?_ | refine blk_alloc ?_ _)); refine blk_put (cs := #[.int .i64 3, .int .i64 a1, .int .i64 7, .int .i64 x462003_1]) ?_ 3 _ rfl; (with_reducible repeat (first | refine blk_drewN ?_ _ | refine blk_drew ?_ | refine blk_alloc ?_ _)); refine blk_put (cs := #[.int .i64 3, .int .i64 a1, .int .i64 x462002_1, .int .i64 x462003_1]) ?_ 2 _ rfl; (with_reducible repeat (first | refine blk_drewN ?_ _ | refine blk_drew ?_ | refine blk_alloc ?_ _)); refine blk_put (cs := #[.int .i64 3, .int .i64 x462001_1, .int .i64 x462002_1, .int .i64 x462003_1]) ?_ 1 _ rfl; (with_reducible repeat (first | refine blk_drewN ?_ _ | refine blk_drew ?_ | refine blk_alloc ?_ _)); refine blk_put (cs := #[.int .i64 x462000_1, .int .i64 x462001_1, .int .i64 x462002_1, .int .i64 x462003_1]) ?_ 0 _ rfl; (with_reducible repeat (first | refine blk_drewN ?_ _ | refine blk_drew ?_ | refine blk_alloc ?_ _)); exact BK461.out) Try.underlying30 rfl (by kernel_rfl)) rfl ?_
         exact ⟨xq, bs⟩
        ·
         replace c22 := Bool.eq_false_iff.mpr c22
         subst c22
         have H1 : (surmiseref05_rule.l1 kj13 a1 x6_1 0 l0_0 l0_1 l0_2 l0_3 ((rd_T38 l0_3 a1).f0) ((rd_T38 l0_3 a1).f1) ((rd_T38 l0_3 a1).f2) ((rd_T38 l0_3 a1).f3) ((rd_T38 l0_3 a1).f4)) = some (r1, r2, r3, r4) := by rw [if_neg (show ¬ (false = true) by decide)] at H; exact H
         clear H
         have H := H1
         clear H1
         have H' := Am H
         clear H
         go_wp2
         go_loopg [7] kj13 (fun kq v7 w' => ∃ (x7_3 : Int) (x462000_3 : Int) (x462001_3 : Int) (x462002_3 : Int) (x462003_3 : Int), v7 = .int .i64 x7_3 ∧ Aside0 (surmiseref05_rule.l1 kq a1 x6_1 x7_3 l0_0 l0_1 l0_2 l0_3 ((rd_T38 l0_3 a1).f0) ((rd_T38 l0_3 a1).f1) ((rd_T38 l0_3 a1).f2) ((rd_T38 l0_3 a1).f3) ((rd_T38 l0_3 a1).f4) = some (r1, r2, r3, r4)) ∧ Aside0 (kq ≤ kj13) ∧ Aside0 (w'.heap[gb460]? = some (.cells #[(.slice A0_0 l0_0.length c0_0), (.slice A0_1 l0_1.length c0_1), (.slice A0_2 l0_2.length c0_2), (.slice (some ad462) l0_3.length c0_3)] 26 (0, 0))) ∧ Aside0 (w'.heap[gb461]? = some (.cells #[.int .i64 x462000_3, .int .i64 x462001_3, .int .i64 x462002_3, .int .i64 x462003_3] 30 (0, 0))) ∧ Aside0 (w'.heap[gb463]? = some (.cells #[.string ((rd_T38 l0_3 a1).f0), .int .i64 ((rd_T38 l0_3 a1).f1), (.slice A462_2 ((rd_T38 l0_3 a1).f2).length c462_2), (.slice A462_3 ((rd_T38 l0_3 a1).f3).length c462_3), (.slice A462_4 ((rd_T38 l0_3 a1).f4).length c462_4)] 38 (0, 0))) ∧ Aside0 (Below w.heap.size w w'))
         case atStart => exact ⟨(0), (x462000_1), (x462001_1), (x462002_1), (x462003_1), rq, H', ⟨Nat.le_refl _⟩, ⟨kB BK460⟩, ⟨kB BK461⟩, ⟨kB BK463⟩, ⟨bs⟩⟩
         case round =>
          clear H'
          try clear c1
          try clear c2
          try clear p2
          try clear c3
          try clear c3b0
          try clear c4
          try clear c4b0
          try clear p4
          try clear q4
          try clear hx4
          try clear c7
          try clear c10
          try clear c11
          try clear c13
          try clear c13b0
          try clear c15
          try clear c16
          try clear c18
          try clear c18b0
          try clear c19
          try clear c19b0
          try clear c22
          try clear c23
          try clear c24
          try clear hcz12_0
          try clear hcz12_1
          try clear hcz12_2
          try clear hcz12_3
          try clear hcz12_4
          try clear hcz17_0
          try clear hcz17_1
          try clear hcz17_2
          try clear hcz17_3
          try clear hcz17_4
          try clear hcz25_0
          try clear hcz25_1
          try clear hcz25_2
          try clear hcz25_3
          try clear hcz8_0
          try clear hcz8_1
          try clear hcz8_2
          try clear hcz8_3
          try clear hfz12_0
          try clear hfz12_1
          try clear hfz12_2
          try clear hfz12_3
          try clear hfz12_4
          try clear hfz17_0
          try clear hfz17_1
          try clear hfz17_2
          try clear hfz17_3
          try clear hfz17_4
          try clear hfz25_0
          try clear hfz25_1
          try clear hfz25_2
          try clear hfz25_3
          try clear hfz8_0
          try clear hfz8_1
          try clear hfz8_2
          try clear hfz8_3
          try clear hx462_0
          try clear hx462_1
          try clear hx462_2
          try clear hx462_3
          try clear hx462_4
          try clear hx464_0
          try clear hx465_0
          try clear p2
          try clear p4
          try clear p462
          try clear p464
          try clear p465
          try clear q4
          try clear q462
          try clear q464
          try clear q465
          obtain ⟨x7_3, x462000_3, x462001_3, x462002_3, x462003_3, rfl, HA, HK3, BK460, BK461, BK463, HB⟩ := hrel
          cases gk with
          | zero => exact absurd HA.out (by simp [surmiseref05_rule.l1])
          | succ k3 =>
           have H := HA.out
           clear HA
           simp only [surmiseref05_rule.l1] at H
           by_cases c26 : x7_3 < x6_1
           ·
            rw [if_pos c26] at H
            have c26b0 : decide (x7_3 < x6_1) = true := decide_eq_true c26
            clear c26
            by_cases c27 : 0 ≤ x7_3
            ·
             rw [if_pos c27] at H
             have c27b0 : decide (0 ≤ x7_3) = true := decide_eq_true c27
             clear c27
             by_cases c28 : x7_3 < (((rd_T38 l0_3 a1).f2).length : Int)
             ·
              rw [if_pos c28] at H
              have c28b0 : decide (x7_3 < (((rd_T38 l0_3 a1).f2).length : Int)) = true := decide_eq_true c28
              clear c28
              by_cases c29 : 0 ≤ x6_1
              ·
               rw [if_pos c29] at H
               have c29b0 : decide (0 ≤ x6_1) = true := decide_eq_true c29
               clear c29
               by_cases c30 : x6_1 < (((rd_T38 l0_3 a1).f2).length : Int)
               ·
                rw [if_pos c30] at H
                have c30b0 : decide (x6_1 < (((rd_T38 l0_3 a1).f2).length : Int)) = true := decide_eq_true c30
                clear c30
                by_cases c31 : (rd ((rd_T38 l0_3 a1).f2) x7_3) = (rd ((rd_T38 l0_3 a1).f2) x6_1)
                ·
                 rw [if_pos c31] at H
                 have c31b0 : ((rd ((rd_T38 l0_3 a1).f2) x7_3) == (rd ((rd_T38 l0_3 a1).f2) x6_1)) = true := beq_iff_eq.mpr c31
                 have c31b1 : ((rd ((rd_T38 l0_3 a1).f2) x7_3) != (rd ((rd_T38 l0_3 a1).f2) x6_1)) = false := bne_eq_false_iff_eq.mpr c31
                 clear c31
                 simp only [Option.some.injEq, Prod.mk.injEq] at H
                 obtain ⟨rfl, rfl, rfl, rfl⟩ := H
                 try go_wp2
                 have n0_ := Am (blk_drew BK460.out)
                 have n1_ := Am (blk_drew BK461.out)
                 have n2_ := Am (blk_drew BK463.out)
                 have n3_ := Am (below_drew1 HB.out)
                 clear BK460
                 clear BK461
                 clear BK463
                 clear HB
                 have BK460 := n0_
                 have BK461 := n1_
                 have BK463 := n2_
                 have HB := n3_
                 clear n0_ n1_ n2_ n3_
                 have p466 : 0 ≤ (x7_3 : Int) := of_decide_eq_true az
                 have q466 : x7_3 < (((rd_T38 l0_3 a1).f2).length : Int) := of_decide_eq_true az
                 obtain ⟨ad466, e466, hx466_0⟩ := Kd.at_int HR462_2.out x7_3 p466 q466
                 have hw466_0 := hx466_0
                 cases e466
                 replace hx466_0 := hX HB hx466_0
                 replace p466 := eq_true p466
                 replace q466 := eq_true q466
                 have p467 : 0 ≤ (x6_1 : Int) := of_decide_eq_true az
                 have q467 : x6_1 < (((rd_T38 l0_3 a1).f2).length : Int) := of_decide_eq_true az
                 obtain ⟨ad467, e467, hx467_0⟩ := Kd.at_int HR462_2.out x6_1 p467 q467
                 have hw467_0 := hx467_0
                 obtain rfl : ad466 = ad467 := (by injection e467)
                 replace hx467_0 := hX HB hx467_0
                 replace p467 := eq_true p467
                 replace q467 := eq_true q467
                 refine start_ (n := 11) (S := fun w' => w'.cell? ⟨gb463, 0, none⟩ = some (.string ((rd_T38 l0_3 a1).f0)) ∧ w'.cell? ⟨gb463, 1, none⟩ = some (.int .i64 ((rd_T38 l0_3 a1).f1)) ∧ w'.cell? ⟨gb463, 2, none⟩ = some (.slice (some ad466) ((rd_T38 l0_3 a1).f2).length c462_2) ∧ w'.cell? ⟨gb463, 3, none⟩ = some (.slice A462_3 ((rd_T38 l0_3 a1).f3).length c462_3) ∧ w'.cell? ⟨gb463, 4, none⟩ = some (.slice A462_4 ((rd_T38 l0_3 a1).f4).length c462_4) ∧ w'.cell? (ad466.add (x7_3).toNat) = some (.int .i64 (rd ((rd_T38 l0_3 a1).f2) x7_3)) ∧ w'.cell? (ad466.add (x6_1).toNat) = some (.int .i64 (rd ((rd_T38 l0_3 a1).f2) x6_1))) (ds := []) #[false, false, false, false, false, false, false, false, false, false, false] (by kernel_rfl) rfl rfl ⟨(blk_cell BK463.out 0).trans rfl, (blk_cell BK463.out 1).trans rfl, (blk_cell BK463.out 2).trans rfl, (blk_cell BK463.out 3).trans rfl, (blk_cell BK463.out 4).trans rfl, ((HB.out.cell (World.block_lt_of_cell? w _ hw466_0)).trans hw466_0), ((HB.out.cell (World.block_lt_of_cell? w _ hw467_0)).trans hw467_0)⟩ (fun hHeld => ?_); refine with_tabW surmiseref05_rule.tab10 surmiseref05_rule.bits10 (fun HT_ HW_ => ?_)
                 generalize wr.drew = w32 at BK460 BK461 BK463 HB hx466_0 hx467_0 hHeld ⊢
                 refine pure_ (i := 0) (N := some 49) (v := ?_) (a' := ?_) #[true, false, false, false, false, false, false, false, false, false, false] rfl rfl (any_of HT_.out (by kernel_rfl)) (fun _ _ _ h => h) (Or.inl ⟨by rfl, ?_⟩) ?_ ?_
                 rotate_left
                 ·
                  intro w'
                  go_simp
                  with_reducible rfl
                 rotate_left
                 ·
                  simp only [Act.put, List.setIfInBounds_toArray, List.set_cons_zero, List.set_cons_succ, i64_w, i32_w]
                  rfl
                 refine pure_ (i := 2) (N := some 51) (v := ?_) (a' := ?_) #[true, false, true, false, false, false, false, false, false, false, false] rfl rfl (any_of HT_.out (by kernel_rfl)) (fun _ _ _ h => h) (Or.inl ⟨by rfl, ?_⟩) ?_ ?_
                 rotate_left
                 ·
                  intro w'
                  go_simp
                  with_reducible rfl
                 rotate_left
                 ·
                  simp only [Act.put, List.setIfInBounds_toArray, List.set_cons_zero, List.set_cons_succ, i64_w, i32_w]
                  rfl
                 refine pure_ (i := 5) (N := some 54) (v := ?_) (a' := ?_) #[true, false, true, false, false, true, false, false, false, false, false] rfl rfl (any_of HT_.out (by kernel_rfl)) (fun _ _ _ h => h) (Or.inl ⟨by rfl, ?_⟩) ?_ ?_
                 rotate_left
                 ·
                  intro w'
                  go_simp
                  with_reducible rfl
                 rotate_left
                 ·
                  simp only [Act.put, List.setIfInBounds_toArray, List.set_cons_zero, List.set_cons_succ, i64_w, i32_w]
                  rfl
                 refine pure_ (i := 7) (N := some 56) (v := ?_) (a' := ?_) #[true, false, true, false, false, true, false, true, false, false, false] rfl rfl (any_of HT_.out (by kernel_rfl)) (fun _ _ _ h => h) (Or.inl ⟨by rfl, ?_⟩) ?_ ?_
                 rotate_left
                 ·
                  intro w'
                  go_simp
                  with_reducible rfl
                 rotate_left
                 ·
                  simp only [Act.put, List.setIfInBounds_toArray, List.set_cons_zero, List.set_cons_succ, i64_w, i32_w]
                  rfl
                 refine take_ (i := 1) (N := some 50) (v := ?_) (a' := ?_) #[true, true, true, false, false, true, false, true, false, false, false] rfl rfl (take_ofW HT_.out HW_.out (by kernel_rfl)) (fun _ _ _ h => h) (Or.inl ⟨by rfl, ?_⟩) hHeld ?_ ?_
                 rotate_left
                 ·
                  rintro w' ⟨s0, s1, s2, s3, s4, s5, s6⟩
                  go_simp
                  with_reducible rfl
                 rotate_left
                 ·
                  simp only [Act.put, List.setIfInBounds_toArray, List.set_cons_zero, List.set_cons_succ, i64_w, i32_w]
                  rfl
                 refine pure_ (i := 3) (N := some 52) (v := ?_) (a' := ?_) #[true, true, true, true, false, true, false, true, false, false, false] rfl rfl (any_of HT_.out (by kernel_rfl)) (fun _ _ _ h => h) (Or.inl ⟨by rfl, ?_⟩) ?_ ?_
                 rotate_left
                 ·
                  intro w'
                  go_simp
                  with_reducible rfl
                 rotate_left
                 ·
                  simp only [Act.put, List.setIfInBounds_toArray, List.set_cons_zero, List.set_cons_succ, i64_w, i32_w]
                  rfl
                 refine take_ (i := 4) (N := some 53) (v := ?_) (a' := ?_) #[true, true, true, true, true, true, false, true, false, false, false] rfl rfl (take_ofW HT_.out HW_.out (by kernel_rfl)) (fun _ _ _ h => h) (Or.inl ⟨by rfl, ?_⟩) hHeld ?_ ?_
                 rotate_left
                 ·
                  rintro w' ⟨s0, s1, s2, s3, s4, s5, s6⟩
                  go_simp
                  with_reducible rfl
                 rotate_left
                 ·
                  simp only [Act.put, List.setIfInBounds_toArray, List.set_cons_zero, List.set_cons_succ, i64_w, i32_w]
                  rfl
                 refine take_ (i := 6) (N := some 55) (v := ?_) (a' := ?_) #[true, true, true, true, true, true, true, true, false, false, false] rfl rfl (take_ofW HT_.out HW_.out (by kernel_rfl)) (fun _ _ _ h => h) (Or.inl ⟨by rfl, ?_⟩) hHeld ?_ ?_
                 rotate_left
                 ·
                  rintro w' ⟨s0, s1, s2, s3, s4, s5, s6⟩
                  go_simp
                  with_reducible rfl
                 rotate_left
                 ·
                  simp only [Act.put, List.setIfInBounds_toArray, List.set_cons_zero, List.set_cons_succ, i64_w, i32_w]
                  rfl
                 refine pure_ (i := 8) (N := some 57) (v := ?_) (a' := ?_) #[true, true, true, true, true, true, true, true, true, false, false] rfl rfl (any_of HT_.out (by kernel_rfl)) (fun _ _ _ h => h) (Or.inl ⟨by rfl, ?_⟩) ?_ ?_
                 rotate_left
                 ·
                  intro w'
                  go_simp
                  with_reducible rfl
                 rotate_left
                 ·
                  simp only [Act.put, List.setIfInBounds_toArray, List.set_cons_zero, List.set_cons_succ, i64_w, i32_w]
                  rfl
                 refine take_ (i := 9) (N := some 58) (v := ?_) (a' := ?_) #[true, true, true, true, true, true, true, true, true, true, false] rfl rfl (take_ofW HT_.out HW_.out (by kernel_rfl)) (fun _ _ _ h => h) (Or.inl ⟨by rfl, ?_⟩) hHeld ?_ ?_
                 rotate_left
                 ·
                  rintro w' ⟨s0, s1, s2, s3, s4, s5, s6⟩
                  go_simp
                  with_reducible rfl
                 rotate_left
                 ·
                  simp only [Act.put, List.setIfInBounds_toArray, List.set_cons_zero, List.set_cons_succ, i64_w, i32_w]
                  rfl
                 refine pure_ (i := 10) (N := some 59) (v := ?_) (a' := ?_) #[true, true, true, true, true, true, true, true, true, true, true] rfl rfl (any_of HT_.out (by kernel_rfl)) (fun _ _ _ h => h) (Or.inl ⟨by rfl, ?_⟩) ?_ ?_
                 rotate_left
                 ·
                  intro w'
                  go_simp
                  with_reducible rfl
                 rotate_left
                 ·
                  simp only [Act.put, List.setIfInBounds_toArray, List.set_cons_zero, List.set_cons_succ, i64_w, i32_w]
                  rfl
                 refine done_ (done_of HT_.out (by kernel_rfl)) ?_
                 have hnb33 := NB461_460.out
                 have hnc33 := NB460_461.out
                 have hnb34 := NB461_463.out
                 have hnc34 := NB463_461.out
                 have hcz35_0 := cz0 BK461.out
                 have hcz35_1 := cz1 BK461.out
                 have hcz35_2 := cz2 BK461.out
                 have hcz35_3 := cz3 BK461.out
                 have hfz35_0 := fz BK461 0
                 have hfz35_1 := fz BK461 1
                 have hfz35_2 := fz BK461 2
                 have hfz35_3 := fz BK461 3
                 try go_wp2
                 refine bodyPost_ret (results_cell_row rfl _ _ gb461 30 #[.int .i64 9, .int .i64 a1, .int .i64 7, .int .i64 x6_1] (0, 0) _ rfl (by (with_reducible repeat (first | refine blk_drewN ?_ _ | refine blk_drew ?_ | refine blk_alloc ?_ _)); refine blk_put (cs := #[.int .i64 9, .int .i64 a1, .int .i64 7, .int .i64 x462003_3]) ?_ 3 _ rfl; (with_reducible repeat (first | refine blk_drewN ?_ _ | refine blk_drew ?_ | refine blk_alloc ?_ _)); refine blk_put (cs := #[.int .i64 9, .int .i64 a1, .int .i64 x462002_3, .int .i64 x462003_3]) ?_ 2 _ rfl; (with_reducible repeat (first | refine blk_drewN ?_ _ | refine blk_drew ?_ | refine blk_alloc ?_ _)); refine blk_put (cs := #[.int .i64 9, .int .i64 x462001_3, .int .i64 x462002_3, .int .i64 x462003_3]) ?_ 1 _ rfl; (with_reducible repeat (first | refine blk_drewN ?_ _ | refine blk_drew ?_ | refine blk_alloc ?_ _)); refine blk_put (cs := #[.int .i64 x462000_3, .int .i64 x462001_3, .int .i64 x462002_3, .int .i64 x462003_3]) ?_ 0 _ rfl; (with_reducible repeat (first | refine blk_drewN ?_ _ | refine blk_drew ?_ | refine blk_alloc ?_ _)); exact BK461.out) Try.underlying30 rfl (by kernel_rfl)) rfl ?_
                 exact ⟨xq, bs⟩
                ·
                 rw [if_neg c31] at H
                 have c31b0 : ((rd ((rd_T38 l0_3 a1).f2) x7_3) == (rd ((rd_T38 l0_3 a1).f2) x6_1)) = false := beq_eq_false_iff_ne.mpr c31
                 have c31b1 : ((rd ((rd_T38 l0_3 a1).f2) x7_3) != (rd ((rd_T38 l0_3 a1).f2) x6_1)) = true := bne_iff_ne.mpr c31
                 have H' := Am H
                 clear H
                 try go_wp2
                 have n0_ := Am (blk_drew BK460.out)
                 have n1_ := Am (blk_drew BK461.out)
                 have n2_ := Am (blk_drew BK463.out)
                 have n3_ := Am (below_drew1 HB.out)
                 clear BK460
                 clear BK461
                 clear BK463
                 clear HB
                 have BK460 := n0_
                 have BK461 := n1_
                 have BK463 := n2_
                 have HB := n3_
                 clear n0_ n1_ n2_ n3_
                 have p466 : 0 ≤ (x7_3 : Int) := of_decide_eq_true az
                 have q466 : x7_3 < (((rd_T38 l0_3 a1).f2).length : Int) := of_decide_eq_true az
                 obtain ⟨ad466, e466, hx466_0⟩ := Kd.at_int HR462_2.out x7_3 p466 q466
                 have hw466_0 := hx466_0
                 cases e466
                 replace hx466_0 := hX HB hx466_0
                 replace p466 := eq_true p466
                 replace q466 := eq_true q466
                 have p467 : 0 ≤ (x6_1 : Int) := of_decide_eq_true az
                 have q467 : x6_1 < (((rd_T38 l0_3 a1).f2).length : Int) := of_decide_eq_true az
                 obtain ⟨ad467, e467, hx467_0⟩ := Kd.at_int HR462_2.out x6_1 p467 q467
                 have hw467_0 := hx467_0
                 obtain rfl : ad466 = ad467 := (by injection e467)
                 replace hx467_0 := hX HB hx467_0
                 replace p467 := eq_true p467
                 replace q467 := eq_true q467
                 refine start_ (n := 11) (S := fun w' => w'.cell? ⟨gb463, 0, none⟩ = some (.string ((rd_T38 l0_3 a1).f0)) ∧ w'.cell? ⟨gb463, 1, none⟩ = some (.int .i64 ((rd_T38 l0_3 a1).f1)) ∧ w'.cell? ⟨gb463, 2, none⟩ = some (.slice (some ad466) ((rd_T38 l0_3 a1).f2).length c462_2) ∧ w'.cell? ⟨gb463, 3, none⟩ = some (.slice A462_3 ((rd_T38 l0_3 a1).f3).length c462_3) ∧ w'.cell? ⟨gb463, 4, none⟩ = some (.slice A462_4 ((rd_T38 l0_3 a1).f4).length c462_4) ∧ w'.cell? (ad466.add (x7_3).toNat) = some (.int .i64 (rd ((rd_T38 l0_3 a1).f2) x7_3)) ∧ w'.cell? (ad466.add (x6_1).toNat) = some (.int .i64 (rd ((rd_T38 l0_3 a1).f2) x6_1))) (ds := []) #[false, false, false, false, false, false, false, false, false, false, false] (by kernel_rfl) rfl rfl ⟨(blk_cell BK463.out 0).trans rfl, (blk_cell BK463.out 1).trans rfl, (blk_cell BK463.out 2).trans rfl, (blk_cell BK463.out 3).trans rfl, (blk_cell BK463.out 4).trans rfl, ((HB.out.cell (World.block_lt_of_cell? w _ hw466_0)).trans hw466_0), ((HB.out.cell (World.block_lt_of_cell? w _ hw467_0)).trans hw467_0)⟩ (fun hHeld => ?_); refine with_tabW surmiseref05_rule.tab10 surmiseref05_rule.bits10 (fun HT_ HW_ => ?_)
                 generalize wr.drew = w36 at BK460 BK461 BK463 HB hx466_0 hx467_0 hHeld ⊢
                 refine pure_ (i := 0) (N := some 49) (v := ?_) (a' := ?_) #[true, false, false, false, false, false, false, false, false, false, false] rfl rfl (any_of HT_.out (by kernel_rfl)) (fun _ _ _ h => h) (Or.inl ⟨by rfl, ?_⟩) ?_ ?_
                 rotate_left
                 ·
                  intro w'
                  go_simp
                  with_reducible rfl
                 rotate_left
                 ·
                  simp only [Act.put, List.setIfInBounds_toArray, List.set_cons_zero, List.set_cons_succ, i64_w, i32_w]
                  rfl
                 refine pure_ (i := 2) (N := some 51) (v := ?_) (a' := ?_) #[true, false, true, false, false, false, false, false, false, false, false] rfl rfl (any_of HT_.out (by kernel_rfl)) (fun _ _ _ h => h) (Or.inl ⟨by rfl, ?_⟩) ?_ ?_
                 rotate_left
                 ·
                  intro w'
                  go_simp
                  with_reducible rfl
                 rotate_left
                 ·
                  simp only [Act.put, List.setIfInBounds_toArray, List.set_cons_zero, List.set_cons_succ, i64_w, i32_w]
                  rfl
                 refine pure_ (i := 5) (N := some 54) (v := ?_) (a' := ?_) #[true, false, true, false, false, true, false, false, false, false, false] rfl rfl (any_of HT_.out (by kernel_rfl)) (fun _ _ _ h => h) (Or.inl ⟨by rfl, ?_⟩) ?_ ?_
                 rotate_left
                 ·
                  intro w'
                  go_simp
                  with_reducible rfl
                 rotate_left
                 ·
                  simp only [Act.put, List.setIfInBounds_toArray, List.set_cons_zero, List.set_cons_succ, i64_w, i32_w]
                  rfl
                 refine pure_ (i := 7) (N := some 56) (v := ?_) (a' := ?_) #[true, false, true, false, false, true, false, true, false, false, false] rfl rfl (any_of HT_.out (by kernel_rfl)) (fun _ _ _ h => h) (Or.inl ⟨by rfl, ?_⟩) ?_ ?_
                 rotate_left
                 ·
                  intro w'
                  go_simp
                  with_reducible rfl
                 rotate_left
                 ·
                  simp only [Act.put, List.setIfInBounds_toArray, List.set_cons_zero, List.set_cons_succ, i64_w, i32_w]
                  rfl
                 refine take_ (i := 1) (N := some 50) (v := ?_) (a' := ?_) #[true, true, true, false, false, true, false, true, false, false, false] rfl rfl (take_ofW HT_.out HW_.out (by kernel_rfl)) (fun _ _ _ h => h) (Or.inl ⟨by rfl, ?_⟩) hHeld ?_ ?_
                 rotate_left
                 ·
                  rintro w' ⟨s0, s1, s2, s3, s4, s5, s6⟩
                  go_simp
                  with_reducible rfl
                 rotate_left
                 ·
                  simp only [Act.put, List.setIfInBounds_toArray, List.set_cons_zero, List.set_cons_succ, i64_w, i32_w]
                  rfl
                 refine pure_ (i := 3) (N := some 52) (v := ?_) (a' := ?_) #[true, true, true, true, false, true, false, true, false, false, false] rfl rfl (any_of HT_.out (by kernel_rfl)) (fun _ _ _ h => h) (Or.inl ⟨by rfl, ?_⟩) ?_ ?_
                 rotate_left
                 ·
                  intro w'
                  go_simp
                  with_reducible rfl
                 rotate_left
                 ·
                  simp only [Act.put, List.setIfInBounds_toArray, List.set_cons_zero, List.set_cons_succ, i64_w, i32_w]
                  rfl
                 refine take_ (i := 4) (N := some 53) (v := ?_) (a' := ?_) #[true, true, true, true, true, true, false, true, false, false, false] rfl rfl (take_ofW HT_.out HW_.out (by kernel_rfl)) (fun _ _ _ h => h) (Or.inl ⟨by rfl, ?_⟩) hHeld ?_ ?_
                 rotate_left
                 ·
                  rintro w' ⟨s0, s1, s2, s3, s4, s5, s6⟩
                  go_simp
                  with_reducible rfl
                 rotate_left
                 ·
                  simp only [Act.put, List.setIfInBounds_toArray, List.set_cons_zero, List.set_cons_succ, i64_w, i32_w]
                  rfl
                 refine take_ (i := 6) (N := some 55) (v := ?_) (a' := ?_) #[true, true, true, true, true, true, true, true, false, false, false] rfl rfl (take_ofW HT_.out HW_.out (by kernel_rfl)) (fun _ _ _ h => h) (Or.inl ⟨by rfl, ?_⟩) hHeld ?_ ?_
                 rotate_left
                 ·
                  rintro w' ⟨s0, s1, s2, s3, s4, s5, s6⟩
                  go_simp
                  with_reducible rfl
                 rotate_left
                 ·
                  simp only [Act.put, List.setIfInBounds_toArray, List.set_cons_zero, List.set_cons_succ, i64_w, i32_w]
                  rfl
                 refine pure_ (i := 8) (N := some 57) (v := ?_) (a' := ?_) #[true, true, true, true, true, true, true, true, true, false, false] rfl rfl (any_of HT_.out (by kernel_rfl)) (fun _ _ _ h => h) (Or.inl ⟨by rfl, ?_⟩) ?_ ?_
                 rotate_left
                 ·
                  intro w'
                  go_simp
                  with_reducible rfl
                 rotate_left
                 ·
                  simp only [Act.put, List.setIfInBounds_toArray, List.set_cons_zero, List.set_cons_succ, i64_w, i32_w]
                  rfl
                 refine take_ (i := 9) (N := some 58) (v := ?_) (a' := ?_) #[true, true, true, true, true, true, true, true, true, true, false] rfl rfl (take_ofW HT_.out HW_.out (by kernel_rfl)) (fun _ _ _ h => h) (Or.inl ⟨by rfl, ?_⟩) hHeld ?_ ?_
                 rotate_left
                 ·
                  rintro w' ⟨s0, s1, s2, s3, s4, s5, s6⟩
                  go_simp
                  with_reducible rfl
                 rotate_left
                 ·
                  simp only [Act.put, List.setIfInBounds_toArray, List.set_cons_zero, List.set_cons_succ, i64_w, i32_w]
                  rfl
                 refine pure_ (i := 10) (N := some 59) (v := ?_) (a' := ?_) #[true, true, true, true, true, true, true, true, true, true, true] rfl rfl (any_of HT_.out (by kernel_rfl)) (fun _ _ _ h => h) (Or.inl ⟨by rfl, ?_⟩) ?_ ?_
                 rotate_left
                 ·
                  intro w'
                  go_simp
                  with_reducible rfl
                 rotate_left
                 ·
                  simp only [Act.put, List.setIfInBounds_toArray, List.set_cons_zero, List.set_cons_succ, i64_w, i32_w]
                  rfl
                 refine done_ (done_of HT_.out (by kernel_rfl)) ?_
                 try go_wp2
                 go_roundg k3
                 case measure => have := HK1.out; have := HJ13.out; have := HK3.out; omega
                 case rel => exact ⟨(wrap64 (x7_3 + 1)), (x462000_3), (x462001_3), (x462002_3), (x462003_3), rq, H', ⟨by have := HK1.out; have := HJ13.out; have := HK3.out; omega⟩, ⟨kB BK460⟩, ⟨kB BK461⟩, ⟨kB BK463⟩, ⟨bs⟩⟩
               ·
                rw [if_neg c30] at H
                exact absurd H (by simp)
              ·
               rw [if_neg c29] at H
               exact absurd H (by simp)
             ·
              rw [if_neg c28] at H
              exact absurd H (by simp)
            ·
             rw [if_neg c27] at H
             exact absurd H (by simp)
           ·
            rw [if_neg c26] at H
            have c26b0 : decide (x7_3 < x6_1) = false := decide_eq_false c26
            clear c26
            have H' := Am H
            clear H
            go_wp2
            go_roundg k3
            case measure => have := HK1.out; have := HJ13.out; have := HK3.out; omega
            case rel => exact ⟨(wrap64 (x6_1 + 1)), (x462000_3), (x462001_3), (x462002_3), (x462003_3), rq, H', ⟨by have := HK1.out; have := HJ13.out; have := HK3.out; omega⟩, ⟨kB BK460⟩, ⟨kB BK461⟩, ⟨kB BK463⟩, ⟨bs⟩⟩
     ·
      rw [if_neg c13] at H
      have c13b0 : decide (x6_1 < (((rd_T38 l0_3 a1).f2).length : Int)) = false := decide_eq_false c13
      clear c13
      by_cases c37 : (((rd_T38 l0_3 a1).f3).length : Int) > 4
      ·
       rw [if_pos c37] at H
       have c37b0 : decide (4 < (((rd_T38 l0_3 a1).f3).length : Int)) = true := decide_eq_true c37
       have c37b1 : decide (4 < ((rd_T38 l0_3 a1).f3).length) = true := decide_eq_true (by omega)
       clear c37
       simp only [Option.some.injEq, Prod.mk.injEq] at H
       obtain ⟨rfl, rfl, rfl, rfl⟩ := H
       have hnb38 := NB463_460.out
       have hnc38 := NB460_463.out
       have hnb39 := NB463_461.out
       have hnc39 := NB461_463.out
       have hcz40_0 := cz0 BK463.out
       have hcz40_1 := cz1 BK463.out
       have hcz40_2 := cz2 BK463.out
       have hcz40_3 := cz3 BK463.out
       have hcz40_4 := cz4 BK463.out
       have hfz40_0 := fz BK463 0
       have hfz40_1 := fz BK463 1
       have hfz40_2 := fz BK463 2
       have hfz40_3 := fz BK463 3
       have hfz40_4 := fz BK463 4
       have hnb41 := NB461_460.out
       have hnc41 := NB460_461.out
       have hcz42_0 := cz0 BK461.out
       have hcz42_1 := cz1 BK461.out
       have hcz42_2 := cz2 BK461.out
       have hcz42_3 := cz3 BK461.out
       have hfz42_0 := fz BK461 0
       have hfz42_1 := fz BK461 1
       have hfz42_2 := fz BK461 2
       have hfz42_3 := fz BK461 3
       go_wp2
       refine bodyPost_ret (results_cell_row rfl _ _ gb461 30 #[.int .i64 4, .int .i64 a1, .int .i64 8, .int .i64 0] (0, 0) _ rfl (by (with_reducible repeat (first | refine blk_drewN ?_ _ | refine blk_drew ?_ | refine blk_alloc ?_ _)); refine blk_put (cs := #[.int .i64 4, .int .i64 a1, .int .i64 8, .int .i64 x462003_1]) ?_ 3 _ rfl; (with_reducible repeat (first | refine blk_drewN ?_ _ | refine blk_drew ?_ | refine blk_alloc ?_ _)); refine blk_put (cs := #[.int .i64 4, .int .i64 a1, .int .i64 x462002_1, .int .i64 x462003_1]) ?_ 2 _ rfl; (with_reducible repeat (first | refine blk_drewN ?_ _ | refine blk_drew ?_ | refine blk_alloc ?_ _)); refine blk_put (cs := #[.int .i64 4, .int .i64 x462001_1, .int .i64 x462002_1, .int .i64 x462003_1]) ?_ 1 _ rfl; (with_reducible repeat (first | refine blk_drewN ?_ _ | refine blk_drew ?_ | refine blk_alloc ?_ _)); refine blk_put (cs := #[.int .i64 x462000_1, .int .i64 x462001_1, .int .i64 x462002_1, .int .i64 x462003_1]) ?_ 0 _ rfl; (with_reducible repeat (first | refine blk_drewN ?_ _ | refine blk_drew ?_ | refine blk_alloc ?_ _)); exact BK461.out) Try.underlying30 rfl (by kernel_rfl)) rfl ?_
       exact ⟨xq, bs⟩
      ·
       rw [if_neg c37] at H
       have c37b0 : decide (4 < (((rd_T38 l0_3 a1).f3).length : Int)) = false := decide_eq_false c37
       have c37b1 : decide (4 < ((rd_T38 l0_3 a1).f3).length) = false := decide_eq_false (by omega)
       clear c37
       have H' := Am H
       clear H
       have hnb43 := NB463_460.out
       have hnc43 := NB460_463.out
       have hnb44 := NB463_461.out
       have hnc44 := NB461_463.out
       have hcz45_0 := cz0 BK463.out
       have hcz45_1 := cz1 BK463.out
       have hcz45_2 := cz2 BK463.out
       have hcz45_3 := cz3 BK463.out
       have hcz45_4 := cz4 BK463.out
       have hfz45_0 := fz BK463 0
       have hfz45_1 := fz BK463 1
       have hfz45_2 := fz BK463 2
       have hfz45_3 := fz BK463 3
       have hfz45_4 := fz BK463 4
       go_wp2
       go_loopg [8] k1 (fun kq v8 w' => ∃ (x8_2 : Int) (x462000_2 : Int) (x462001_2 : Int) (x462002_2 : Int) (x462003_2 : Int), v8 = .int .i64 x8_2 ∧ Aside0 (surmiseref05_rule.l2 kq a1 x8_2 l0_0 l0_1 l0_2 l0_3 ((rd_T38 l0_3 a1).f0) ((rd_T38 l0_3 a1).f1) ((rd_T38 l0_3 a1).f2) ((rd_T38 l0_3 a1).f3) ((rd_T38 l0_3 a1).f4) = some (r1, r2, r3, r4)) ∧ Aside0 (kq ≤ k1) ∧ Aside0 (w'.heap[gb460]? = some (.cells #[(.slice A0_0 l0_0.length c0_0), (.slice A0_1 l0_1.length c0_1), (.slice A0_2 l0_2.length c0_2), (.slice (some ad462) l0_3.length c0_3)] 26 (0, 0))) ∧ Aside0 (w'.heap[gb461]? = some (.cells #[.int .i64 x462000_2, .int .i64 x462001_2, .int .i64 x462002_2, .int .i64 x462003_2] 30 (0, 0))) ∧ Aside0 (w'.heap[gb463]? = some (.cells #[.string ((rd_T38 l0_3 a1).f0), .int .i64 ((rd_T38 l0_3 a1).f1), (.slice A462_2 ((rd_T38 l0_3 a1).f2).length c462_2), (.slice A462_3 ((rd_T38 l0_3 a1).f3).length c462_3), (.slice A462_4 ((rd_T38 l0_3 a1).f4).length c462_4)] 38 (0, 0))) ∧ Aside0 (Below w.heap.size w w'))
       case atStart => exact ⟨(0), (x462000_1), (x462001_1), (x462002_1), (x462003_1), rq, H', ⟨Nat.le_refl _⟩, ⟨kB BK460⟩, ⟨kB BK461⟩, ⟨kB BK463⟩, ⟨bs⟩⟩
       case round =>
        clear H'
        try clear c1
        try clear c2
        try clear p2
        try clear c3
        try clear c3b0
        try clear c4
        try clear c4b0
        try clear p4
        try clear q4
        try clear hx4
        try clear p6
        try clear c7
        try clear c10
        try clear c11
        try clear c13
        try clear c13b0
        try clear c15
        try clear c16
        try clear c18
        try clear c18b0
        try clear c19
        try clear c19b0
        try clear c22
        try clear c23
        try clear c24
        try clear c26
        try clear c26b0
        try clear c27
        try clear c27b0
        try clear c28
        try clear c28b0
        try clear c29
        try clear c29b0
        try clear c30
        try clear c30b0
        try clear c31
        try clear c31b0
        try clear c31b1
        try clear c33
        try clear c34
        try clear c37
        try clear c37b0
        try clear c37b1
        try clear c38
        try clear c39
        try clear c41
        try clear c43
        try clear c44
        try clear hcz12_0
        try clear hcz12_1
        try clear hcz12_2
        try clear hcz12_3
        try clear hcz12_4
        try clear hcz17_0
        try clear hcz17_1
        try clear hcz17_2
        try clear hcz17_3
        try clear hcz17_4
        try clear hcz25_0
        try clear hcz25_1
        try clear hcz25_2
        try clear hcz25_3
        try clear hcz35_0
        try clear hcz35_1
        try clear hcz35_2
        try clear hcz35_3
        try clear hcz40_0
        try clear hcz40_1
        try clear hcz40_2
        try clear hcz40_3
        try clear hcz40_4
        try clear hcz42_0
        try clear hcz42_1
        try clear hcz42_2
        try clear hcz42_3
        try clear hcz45_0
        try clear hcz45_1
        try clear hcz45_2
        try clear hcz45_3
        try clear hcz45_4
        try clear hcz8_0
        try clear hcz8_1
        try clear hcz8_2
        try clear hcz8_3
        try clear hfz12_0
        try clear hfz12_1
        try clear hfz12_2
        try clear hfz12_3
        try clear hfz12_4
        try clear hfz17_0
        try clear hfz17_1
        try clear hfz17_2
        try clear hfz17_3
        try clear hfz17_4
        try clear hfz25_0
        try clear hfz25_1
        try clear hfz25_2
        try clear hfz25_3
        try clear hfz35_0
        try clear hfz35_1
        try clear hfz35_2
        try clear hfz35_3
        try clear hfz40_0
        try clear hfz40_1
        try clear hfz40_2
        try clear hfz40_3
        try clear hfz40_4
        try clear hfz42_0
        try clear hfz42_1
        try clear hfz42_2
        try clear hfz42_3
        try clear hfz45_0
        try clear hfz45_1
        try clear hfz45_2
        try clear hfz45_3
        try clear hfz45_4
        try clear hfz8_0
        try clear hfz8_1
        try clear hfz8_2
        try clear hfz8_3
        try clear hx462_0
        try clear hx462_1
        try clear hx462_2
        try clear hx462_3
        try clear hx462_4
        try clear hx464_0
        try clear hx465_0
        try clear hx466_0
        try clear hx467_0
        try clear p2
        try clear p4
        try clear p462
        try clear p464
        try clear p465
        try clear p466
        try clear p467
        try clear q4
        try clear q462
        try clear q464
        try clear q465
        try clear q466
        try clear q467
        obtain ⟨x8_2, x462000_2, x462001_2, x462002_2, x462003_2, rfl, HA, HK2, BK460, BK461, BK463, HB⟩ := hrel
        cases gk with
        | zero => exact absurd HA.out (by simp [surmiseref05_rule.l2])
        | succ k2 =>
         have H := HA.out
         clear HA
         simp only [surmiseref05_rule.l2] at H
         by_cases c46 : x8_2 < (((rd_T38 l0_3 a1).f3).length : Int)
         ·
          rw [if_pos c46] at H
          have c46b0 : decide (x8_2 < (((rd_T38 l0_3 a1).f3).length : Int)) = true := decide_eq_true c46
          clear c46
          by_cases c47 : 0 ≤ x8_2
          ·
           rw [if_pos c47] at H
           have c47b0 : decide (0 ≤ x8_2) = true := decide_eq_true c47
           clear c47
           obtain ⟨t469, A480, H⟩ := Option.bind_eq_some_iff.mp H
           replace H : (if t469 = 0 then (surmiseref05_rule.l2 k2 a1 (wrap64 (x8_2 + 1)) l0_0 l0_1 l0_2 l0_3 ((rd_T38 l0_3 a1).f0) ((rd_T38 l0_3 a1).f1) ((rd_T38 l0_3 a1).f2) ((rd_T38 l0_3 a1).f3) ((rd_T38 l0_3 a1).f4)) else (some (t469, a1, 8, x8_2))) = some (r1, r2, r3, r4) := H
           have A48 := Am A480
           clear A480
           by_cases c49 : t469 = 0
           ·
            rw [if_pos c49] at H
            have c49b0 : (t469 == 0) = true := beq_iff_eq.mpr c49
            have c49b1 : (t469 != 0) = false := bne_eq_false_iff_eq.mpr c49
            clear c49
            have H' := Am H
            clear H
            have hnb50 := NB463_460.out
            have hnc50 := NB460_463.out
            have hnb51 := NB463_461.out
            have hnc51 := NB461_463.out
            have hcz52_0 := cz0 BK463.out
            have hcz52_1 := cz1 BK463.out
            have hcz52_2 := cz2 BK463.out
            have hcz52_3 := cz3 BK463.out
            have hcz52_4 := cz4 BK463.out
            have hfz52_0 := fz BK463 0
            have hfz52_1 := fz BK463 1
            have hfz52_2 := fz BK463 2
            have hfz52_3 := fz BK463 3
            have hfz52_4 := fz BK463 4
            try go_wp2
            have n0_ := Am (blk_drew BK460.out)
            have n1_ := Am (blk_drew BK461.out)
            have n2_ := Am (blk_drew BK463.out)
            have n3_ := Am (below_drew1 HB.out)
            clear BK460
            clear BK461
            clear BK463
            clear HB
            have BK460 := n0_
            have BK461 := n1_
            have BK463 := n2_
            have HB := n3_
            clear n0_ n1_ n2_ n3_
            have p468 : 0 ≤ (x8_2 : Int) := of_decide_eq_true az
            have q468 : x8_2 < (((rd_T38 l0_3 a1).f3).length : Int) := of_decide_eq_true az
            obtain ⟨ad468, A468_1, c468_1, e468, hx468_0, hx468_1, hl468_1, hi468_1⟩ := at_T66 HR462_3.out x8_2 p468 q468
            have hw468_1 := hx468_1
            have hw468_0 := hx468_0
            cases e468
            replace hx468_0 := hX HB hx468_0
            replace hx468_1 := hX HB hx468_1
            have HR468_1 := Am hi468_1
            have HC468_1 := Am hl468_1
            clear hi468_1 hl468_1
            replace p468 := eq_true p468
            replace q468 := eq_true q468
            refine start_ (n := 10) (S := fun w' => w'.cell? ⟨gb463, 0, none⟩ = some (.string ((rd_T38 l0_3 a1).f0)) ∧ w'.cell? ⟨gb463, 1, none⟩ = some (.int .i64 ((rd_T38 l0_3 a1).f1)) ∧ w'.cell? ⟨gb463, 2, none⟩ = some (.slice A462_2 ((rd_T38 l0_3 a1).f2).length c462_2) ∧ w'.cell? ⟨gb463, 3, none⟩ = some (.slice (some ad468) ((rd_T38 l0_3 a1).f3).length c462_3) ∧ w'.cell? ⟨gb463, 4, none⟩ = some (.slice A462_4 ((rd_T38 l0_3 a1).f4).length c462_4) ∧ w'.cell? ⟨gb460, 0, none⟩ = some (.slice A0_0 l0_0.length c0_0) ∧ w'.cell? ⟨gb460, 1, none⟩ = some (.slice A0_1 l0_1.length c0_1) ∧ w'.cell? ⟨gb460, 2, none⟩ = some (.slice A0_2 l0_2.length c0_2) ∧ w'.cell? ⟨gb460, 3, none⟩ = some (.slice (some ad462) l0_3.length c0_3) ∧ w'.cell? (ad468.add ((x8_2).toNat * 2)) = some (.int .i64 ((rd_T66 ((rd_T38 l0_3 a1).f3) x8_2).f0)) ∧ w'.cell? ⟨(ad468.add ((x8_2).toNat * 2)).block, (ad468.add ((x8_2).toNat * 2)).off + 1, none⟩ = some (.slice A468_1 ((rd_T66 ((rd_T38 l0_3 a1).f3) x8_2).f1).length c468_1)) (ds := []) #[false, false, false, false, false, false, false, false, false, false] (by kernel_rfl) rfl rfl ⟨(blk_cell BK463.out 0).trans rfl, (blk_cell BK463.out 1).trans rfl, (blk_cell BK463.out 2).trans rfl, (blk_cell BK463.out 3).trans rfl, (blk_cell BK463.out 4).trans rfl, (blk_cell BK460.out 0).trans rfl, (blk_cell BK460.out 1).trans rfl, (blk_cell BK460.out 2).trans rfl, (blk_cell BK460.out 3).trans rfl, ((HB.out.cell (World.block_lt_of_cell? w _ hw468_0)).trans hw468_0), ((HB.out.cell (World.block_lt_of_cell? w _ hw468_1)).trans hw468_1)⟩ (fun hHeld => ?_); refine with_tabW surmiseref05_rule.tab17 surmiseref05_rule.bits17 (fun HT_ HW_ => ?_)
            generalize wr.drew = w53 at BK460 BK461 BK463 HB HR468_1 hx468_0 hx468_1 hHeld ⊢
            refine pure_ (i := 0) (N := some 76) (v := ?_) (a' := ?_) #[true, false, false, false, false, false, false, false, false, false] rfl rfl (any_of HT_.out (by kernel_rfl)) (fun _ _ _ h => h) (Or.inl ⟨by rfl, ?_⟩) ?_ ?_
            rotate_left
            ·
             intro w'
             go_simp
             with_reducible rfl
            rotate_left
            ·
             simp only [Act.put, List.setIfInBounds_toArray, List.set_cons_zero, List.set_cons_succ, i64_w, i32_w]
             rfl
            refine pure_ (i := 2) (N := some 78) (v := ?_) (a' := ?_) #[true, false, true, false, false, false, false, false, false, false] rfl rfl (any_of HT_.out (by kernel_rfl)) (fun _ _ _ h => h) (Or.inl ⟨by rfl, ?_⟩) ?_ ?_
            rotate_left
            ·
             intro w'
             go_simp
             with_reducible rfl
            rotate_left
            ·
             simp only [Act.put, List.setIfInBounds_toArray, List.set_cons_zero, List.set_cons_succ, i64_w, i32_w]
             rfl
            refine pure_ (i := 6) (N := some 82) (v := ?_) (a' := ?_) #[true, false, true, false, false, false, true, false, false, false] rfl rfl (any_of HT_.out (by kernel_rfl)) (fun _ _ _ h => h) (Or.inl ⟨by rfl, ?_⟩) ?_ ?_
            rotate_left
            ·
             intro w'
             go_simp
             with_reducible rfl
            rotate_left
            ·
             simp only [Act.put, List.setIfInBounds_toArray, List.set_cons_zero, List.set_cons_succ, i64_w, i32_w]
             rfl
            refine take_ (i := 1) (N := some 77) (v := ?_) (a' := ?_) #[true, true, true, false, false, false, true, false, false, false] rfl rfl (take_ofW HT_.out HW_.out (by kernel_rfl)) (fun _ _ _ h => h) (Or.inl ⟨by rfl, ?_⟩) hHeld ?_ ?_
            rotate_left
            ·
             rintro w' ⟨s0, s1, s2, s3, s4, s5, s6, s7, s8, s9, s10⟩
             go_simp
             with_reducible rfl
            rotate_left
            ·
             simp only [Act.put, List.setIfInBounds_toArray, List.set_cons_zero, List.set_cons_succ, i64_w, i32_w]
             rfl
            refine pure_ (i := 3) (N := some 79) (v := ?_) (a' := ?_) #[true, true, true, true, false, false, true, false, false, false] rfl rfl (any_of HT_.out (by kernel_rfl)) (fun _ _ _ h => h) (Or.inl ⟨by rfl, ?_⟩) ?_ ?_
            rotate_left
            ·
             intro w'
             go_simp
             with_reducible rfl
            rotate_left
            ·
             simp only [Act.put, List.setIfInBounds_toArray, List.set_cons_zero, List.set_cons_succ, i64_w, i32_w]
             rfl
            refine take_ (i := 4) (N := some 80) (v := ?_) (a' := ?_) #[true, true, true, true, true, false, true, false, false, false] rfl rfl (take_ofW HT_.out HW_.out (by kernel_rfl)) (fun _ _ _ h => h) (Or.inl ⟨by rfl, ?_⟩) hHeld ?_ ?_
            rotate_left
            ·
             rintro w' ⟨s0, s1, s2, s3, s4, s5, s6, s7, s8, s9, s10⟩
             go_simp
             with_reducible rfl
            rotate_left
            ·
             simp only [Act.put, List.setIfInBounds_toArray, List.set_cons_zero, List.set_cons_succ, i64_w, i32_w]
             rfl
            refine take_ (i := 5) (N := some 81) (v := ?_) (a' := ?_) #[true, true, true, true, true, true, true, false, false, false] rfl rfl (take_ofW HT_.out HW_.out (by kernel_rfl)) (fun _ _ _ h => h) (Or.inl ⟨by rfl, ?_⟩) hHeld ?_ ?_
            rotate_left
            ·
             rintro w' ⟨s0, s1, s2, s3, s4, s5, s6, s7, s8, s9, s10⟩
             go_simp
             with_reducible rfl
            rotate_left
            ·
             simp only [Act.put, List.setIfInBounds_toArray, List.set_cons_zero, List.set_cons_succ, i64_w, i32_w]
             rfl
            refine take_ (i := 7) (N := some 83) (v := ?_) (a' := ?_) #[true, true, true, true, true, true, true, true, false, false] rfl rfl (take_ofW HT_.out HW_.out (by kernel_rfl)) (fun _ _ _ h => h) (Or.inl ⟨by rfl, ?_⟩) hHeld ?_ ?_
            rotate_left
            ·
             rintro w' ⟨s0, s1, s2, s3, s4, s5, s6, s7, s8, s9, s10⟩
             go_simp
             with_reducible rfl
            rotate_left
            ·
             simp only [Act.put, List.setIfInBounds_toArray, List.set_cons_zero, List.set_cons_succ, i64_w, i32_w]
             rfl
            refine one_ (i := 8) (N := some 84) #[true, true, true, true, true, true, true, true, true, false] rfl rfl (one_of HT_.out (by kernel_rfl)) (by decide) (fun K hK => ?_)
            refine goes_ Try.func53 (by kernel_rfl) rfl #[.agg #[.int .i64 ((rd_T66 ((rd_T38 l0_3 a1).f3) x8_2).f0), .slice A468_1 ((rd_T66 ((rd_T38 l0_3 a1).f3) x8_2).f1).length c468_1], .agg #[.slice A0_0 l0_0.length c0_0, .slice A0_1 l0_1.length c0_1, .slice A0_2 l0_2.length c0_2, .slice (some ad462) l0_3.length c0_3], .int .i64 ((rd_T38 l0_3 a1).f1)] (by rfl) rfl rfl aq ?_
            with_reducible refine (surmiseref05_guard.calls k2 ((rd_T66 ((rd_T38 l0_3 a1).f3) x8_2).f0) _ _ ((rd_T66 ((rd_T38 l0_3 a1).f3) x8_2).f1) _ _ l0_0 _ _ l0_1 _ _ l0_2 _ _ l0_3 ((rd_T38 l0_3 a1).f1) t469 _ ?side1 ?side2 ?side3 ?side4 ?side5 ?side6 ?side7 ?side8 ?side9 ?side10 A48.out).mono ?_
            (case side1 => exact kC HR468_1)
            (case side2 => exact HC468_1.out)
            (case side3 => exact kC HR0_0)
            (case side4 => exact HC0_0.out)
            (case side5 => exact kC HR0_1)
            (case side6 => exact HC0_1.out)
            (case side7 => exact kC HR0_2)
            (case side8 => exact HC0_2.out)
            (case side9 => exact kC HR0_3)
            (case side10 => exact HC0_3.out)
            rintro e w54 ⟨rfl, hb⟩
            refine ⟨_, rfl, ?_⟩
            have n0_ := Am (blk_below (kB BK460) hb)
            have n1_ := Am (blk_below (kB BK461) hb)
            have n2_ := Am (blk_below (kB BK463) hb)
            have n3_ := Am (below_step (bs) hb)
            clear BK460
            clear BK461
            clear BK463
            clear HB
            have BK460 := n0_
            have BK461 := n1_
            have BK463 := n2_
            have HB := n3_
            clear n0_ n1_ n2_ n3_
            (try clear hb)
            (try clear hb2)
            (try clear hk)
            (try clear hi)
            refine hK.out _ _ ⟨(blk_cell BK463.out 0).trans rfl, (blk_cell BK463.out 1).trans rfl, (blk_cell BK463.out 2).trans rfl, (blk_cell BK463.out 3).trans rfl, (blk_cell BK463.out 4).trans rfl, (blk_cell BK460.out 0).trans rfl, (blk_cell BK460.out 1).trans rfl, (blk_cell BK460.out 2).trans rfl, (blk_cell BK460.out 3).trans rfl, ((HB.out.cell (World.block_lt_of_cell? w _ hw468_0)).trans hw468_0), ((HB.out.cell (World.block_lt_of_cell? w _ hw468_1)).trans hw468_1)⟩ (fun hHeld => ?_)
            clear hK K
            refine norm_ (a' := ?_) ?_ ?_
            rotate_left
            ·
             show Act.put _ (some 84) _ = _
             simp only [Act.put, List.setIfInBounds_toArray, List.set_cons_zero, List.set_cons_succ, i64_w, i32_w]
             rfl
            refine pure_ (i := 9) (N := some 9) (v := ?_) (a' := ?_) #[true, true, true, true, true, true, true, true, true, true] rfl rfl (any_of HT_.out (by kernel_rfl)) (fun _ _ _ h => h) (Or.inl ⟨by rfl, ?_⟩) ?_ ?_
            rotate_left
            ·
             intro w'
             go_simp
             with_reducible rfl
            rotate_left
            ·
             simp only [Act.put, List.setIfInBounds_toArray, List.set_cons_zero, List.set_cons_succ, i64_w, i32_w]
             rfl
            refine done_ (done_of HT_.out (by kernel_rfl)) ?_
            try go_wp2
            go_roundg k2
            case measure => have := HK1.out; have := HK2.out; omega
            case rel => exact ⟨(wrap64 (x8_2 + 1)), (x462000_2), (x462001_2), (x462002_2), (x462003_2), rq, H', ⟨by have := HK1.out; have := HK2.out; omega⟩, ⟨kB BK460⟩, ⟨kB BK461⟩, ⟨kB BK463⟩, ⟨bs⟩⟩
           ·
            rw [if_neg c49] at H
            have c49b0 : (t469 == 0) = false := beq_eq_false_iff_ne.mpr c49
            have c49b1 : (t469 != 0) = true := bne_iff_ne.mpr c49
            simp only [Option.some.injEq, Prod.mk.injEq] at H
            obtain ⟨rfl, rfl, rfl, rfl⟩ := H
            have hnb55 := NB463_460.out
            have hnc55 := NB460_463.out
            have hnb56 := NB463_461.out
            have hnc56 := NB461_463.out
            have hcz57_0 := cz0 BK463.out
            have hcz57_1 := cz1 BK463.out
            have hcz57_2 := cz2 BK463.out
            have hcz57_3 := cz3 BK463.out
            have hcz57_4 := cz4 BK463.out
            have hfz57_0 := fz BK463 0
            have hfz57_1 := fz BK463 1
            have hfz57_2 := fz BK463 2
            have hfz57_3 := fz BK463 3
            have hfz57_4 := fz BK463 4
            try go_wp2
            have n0_ := Am (blk_drew BK460.out)
            have n1_ := Am (blk_drew BK461.out)
            have n2_ := Am (blk_drew BK463.out)
            have n3_ := Am (below_drew1 HB.out)
            clear BK460
            clear BK461
            clear BK463
            clear HB
            have BK460 := n0_
            have BK461 := n1_
            have BK463 := n2_
            have HB := n3_
            clear n0_ n1_ n2_ n3_
            have p468 : 0 ≤ (x8_2 : Int) := of_decide_eq_true az
            have q468 : x8_2 < (((rd_T38 l0_3 a1).f3).length : Int) := of_decide_eq_true az
            obtain ⟨ad468, A468_1, c468_1, e468, hx468_0, hx468_1, hl468_1, hi468_1⟩ := at_T66 HR462_3.out x8_2 p468 q468
            have hw468_1 := hx468_1
            have hw468_0 := hx468_0
            cases e468
            replace hx468_0 := hX HB hx468_0
            replace hx468_1 := hX HB hx468_1
            have HR468_1 := Am hi468_1
            have HC468_1 := Am hl468_1
            clear hi468_1 hl468_1
            replace p468 := eq_true p468
            replace q468 := eq_true q468
            refine start_ (n := 10) (S := fun w' => w'.cell? ⟨gb463, 0, none⟩ = some (.string ((rd_T38 l0_3 a1).f0)) ∧ w'.cell? ⟨gb463, 1, none⟩ = some (.int .i64 ((rd_T38 l0_3 a1).f1)) ∧ w'.cell? ⟨gb463, 2, none⟩ = some (.slice A462_2 ((rd_T38 l0_3 a1).f2).length c462_2) ∧ w'.cell? ⟨gb463, 3, none⟩ = some (.slice (some ad468) ((rd_T38 l0_3 a1).f3).length c462_3) ∧ w'.cell? ⟨gb463, 4, none⟩ = some (.slice A462_4 ((rd_T38 l0_3 a1).f4).length c462_4) ∧ w'.cell? ⟨gb460, 0, none⟩ = some (.slice A0_0 l0_0.length c0_0) ∧ w'.cell? ⟨gb460, 1, none⟩ = some (.slice A0_1 l0_1.length c0_1) ∧ w'.cell? ⟨gb460, 2, none⟩ = some (.slice A0_2 l0_2.length c0_2) ∧ w'.cell? ⟨gb460, 3, none⟩ = some (.slice (some ad462) l0_3.length c0_3) ∧ w'.cell? (ad468.add ((x8_2).toNat * 2)) = some (.int .i64 ((rd_T66 ((rd_T38 l0_3 a1).f3) x8_2).f0)) ∧ w'.cell? ⟨(ad468.add ((x8_2).toNat * 2)).block, (ad468.add ((x8_2).toNat * 2)).off + 1, none⟩ = some (.slice A468_1 ((rd_T66 ((rd_T38 l0_3 a1).f3) x8_2).f1).length c468_1)) (ds := []) #[false, false, false, false, false, false, false, false, false, false] (by kernel_rfl) rfl rfl ⟨(blk_cell BK463.out 0).trans rfl, (blk_cell BK463.out 1).trans rfl, (blk_cell BK463.out 2).trans rfl, (blk_cell BK463.out 3).trans rfl, (blk_cell BK463.out 4).trans rfl, (blk_cell BK460.out 0).trans rfl, (blk_cell BK460.out 1).trans rfl, (blk_cell BK460.out 2).trans rfl, (blk_cell BK460.out 3).trans rfl, ((HB.out.cell (World.block_lt_of_cell? w _ hw468_0)).trans hw468_0), ((HB.out.cell (World.block_lt_of_cell? w _ hw468_1)).trans hw468_1)⟩ (fun hHeld => ?_); refine with_tabW surmiseref05_rule.tab17 surmiseref05_rule.bits17 (fun HT_ HW_ => ?_)
            generalize wr.drew = w58 at BK460 BK461 BK463 HB HR468_1 hx468_0 hx468_1 hHeld ⊢
            refine pure_ (i := 0) (N := some 76) (v := ?_) (a' := ?_) #[true, false, false, false, false, false, false, false, false, false] rfl rfl (any_of HT_.out (by kernel_rfl)) (fun _ _ _ h => h) (Or.inl ⟨by rfl, ?_⟩) ?_ ?_
            rotate_left
            ·
             intro w'
             go_simp
             with_reducible rfl
            rotate_left
            ·
             simp only [Act.put, List.setIfInBounds_toArray, List.set_cons_zero, List.set_cons_succ, i64_w, i32_w]
             rfl
            refine pure_ (i := 2) (N := some 78) (v := ?_) (a' := ?_) #[true, false, true, false, false, false, false, false, false, false] rfl rfl (any_of HT_.out (by kernel_rfl)) (fun _ _ _ h => h) (Or.inl ⟨by rfl, ?_⟩) ?_ ?_
            rotate_left
            ·
             intro w'
             go_simp
             with_reducible rfl
            rotate_left
            ·
             simp only [Act.put, List.setIfInBounds_toArray, List.set_cons_zero, List.set_cons_succ, i64_w, i32_w]
             rfl
            refine pure_ (i := 6) (N := some 82) (v := ?_) (a' := ?_) #[true, false, true, false, false, false, true, false, false, false] rfl rfl (any_of HT_.out (by kernel_rfl)) (fun _ _ _ h => h) (Or.inl ⟨by rfl, ?_⟩) ?_ ?_
            rotate_left
            ·
             intro w'
             go_simp
             with_reducible rfl
            rotate_left
            ·
             simp only [Act.put, List.setIfInBounds_toArray, List.set_cons_zero, List.set_cons_succ, i64_w, i32_w]
             rfl
            refine take_ (i := 1) (N := some 77) (v := ?_) (a' := ?_) #[true, true, true, false, false, false, true, false, false, false] rfl rfl (take_ofW HT_.out HW_.out (by kernel_rfl)) (fun _ _ _ h => h) (Or.inl ⟨by rfl, ?_⟩) hHeld ?_ ?_
            rotate_left
            ·
             rintro w' ⟨s0, s1, s2, s3, s4, s5, s6, s7, s8, s9, s10⟩
             go_simp
             with_reducible rfl
            rotate_left
            ·
             simp only [Act.put, List.setIfInBounds_toArray, List.set_cons_zero, List.set_cons_succ, i64_w, i32_w]
             rfl
            refine pure_ (i := 3) (N := some 79) (v := ?_) (a' := ?_) #[true, true, true, true, false, false, true, false, false, false] rfl rfl (any_of HT_.out (by kernel_rfl)) (fun _ _ _ h => h) (Or.inl ⟨by rfl, ?_⟩) ?_ ?_
            rotate_left
            ·
             intro w'
             go_simp
             with_reducible rfl
            rotate_left
            ·
             simp only [Act.put, List.setIfInBounds_toArray, List.set_cons_zero, List.set_cons_succ, i64_w, i32_w]
             rfl
            refine take_ (i := 4) (N := some 80) (v := ?_) (a' := ?_) #[true, true, true, true, true, false, true, false, false, false] rfl rfl (take_ofW HT_.out HW_.out (by kernel_rfl)) (fun _ _ _ h => h) (Or.inl ⟨by rfl, ?_⟩) hHeld ?_ ?_
            rotate_left
            ·
             rintro w' ⟨s0, s1, s2, s3, s4, s5, s6, s7, s8, s9, s10⟩
             go_simp
             with_reducible rfl
            rotate_left
            ·
             simp only [Act.put, List.setIfInBounds_toArray, List.set_cons_zero, List.set_cons_succ, i64_w, i32_w]
             rfl
            refine take_ (i := 5) (N := some 81) (v := ?_) (a' := ?_) #[true, true, true, true, true, true, true, false, false, false] rfl rfl (take_ofW HT_.out HW_.out (by kernel_rfl)) (fun _ _ _ h => h) (Or.inl ⟨by rfl, ?_⟩) hHeld ?_ ?_
            rotate_left
            ·
             rintro w' ⟨s0, s1, s2, s3, s4, s5, s6, s7, s8, s9, s10⟩
             go_simp
             with_reducible rfl
            rotate_left
            ·
             simp only [Act.put, List.setIfInBounds_toArray, List.set_cons_zero, List.set_cons_succ, i64_w, i32_w]
             rfl
            refine take_ (i := 7) (N := some 83) (v := ?_) (a' := ?_) #[true, true, true, true, true, true, true, true, false, false] rfl rfl (take_ofW HT_.out HW_.out (by kernel_rfl)) (fun _ _ _ h => h) (Or.inl ⟨by rfl, ?_⟩) hHeld ?_ ?_
            rotate_left
            ·
             rintro w' ⟨s0, s1, s2, s3, s4, s5, s6, s7, s8, s9, s10⟩
             go_simp
             with_reducible rfl
            rotate_left
            ·
             simp only [Act.put, List.setIfInBounds_toArray, List.set_cons_zero, List.set_cons_succ, i64_w, i32_w]
             rfl
            refine one_ (i := 8) (N := some 84) #[true, true, true, true, true, true, true, true, true, false] rfl rfl (one_of HT_.out (by kernel_rfl)) (by decide) (fun K hK => ?_)
            refine goes_ Try.func53 (by kernel_rfl) rfl #[.agg #[.int .i64 ((rd_T66 ((rd_T38 l0_3 a1).f3) x8_2).f0), .slice A468_1 ((rd_T66 ((rd_T38 l0_3 a1).f3) x8_2).f1).length c468_1], .agg #[.slice A0_0 l0_0.length c0_0, .slice A0_1 l0_1.length c0_1, .slice A0_2 l0_2.length c0_2, .slice (some ad462) l0_3.length c0_3], .int .i64 ((rd_T38 l0_3 a1).f1)] (by rfl) rfl rfl aq ?_
            with_reducible refine (surmiseref05_guard.calls k2 ((rd_T66 ((rd_T38 l0_3 a1).f3) x8_2).f0) _ _ ((rd_T66 ((rd_T38 l0_3 a1).f3) x8_2).f1) _ _ l0_0 _ _ l0_1 _ _ l0_2 _ _ l0_3 ((rd_T38 l0_3 a1).f1) t469 _ ?side1 ?side2 ?side3 ?side4 ?side5 ?side6 ?side7 ?side8 ?side9 ?side10 A48.out).mono ?_
            (case side1 => exact kC HR468_1)
            (case side2 => exact HC468_1.out)
            (case side3 => exact kC HR0_0)
            (case side4 => exact HC0_0.out)
            (case side5 => exact kC HR0_1)
            (case side6 => exact HC0_1.out)
            (case side7 => exact kC HR0_2)
            (case side8 => exact HC0_2.out)
            (case side9 => exact kC HR0_3)
            (case side10 => exact HC0_3.out)
            rintro e w59 ⟨rfl, hb⟩
            refine ⟨_, rfl, ?_⟩
            have n0_ := Am (blk_below (kB BK460) hb)
            have n1_ := Am (blk_below (kB BK461) hb)
            have n2_ := Am (blk_below (kB BK463) hb)
            have n3_ := Am (below_step (bs) hb)
            clear BK460
            clear BK461
            clear BK463
            clear HB
            have BK460 := n0_
            have BK461 := n1_
            have BK463 := n2_
            have HB := n3_
            clear n0_ n1_ n2_ n3_
            (try clear hb)
            (try clear hb2)
            (try clear hk)
            (try clear hi)
            refine hK.out _ _ ⟨(blk_cell BK463.out 0).trans rfl, (blk_cell BK463.out 1).trans rfl, (blk_cell BK463.out 2).trans rfl, (blk_cell BK463.out 3).trans rfl, (blk_cell BK463.out 4).trans rfl, (blk_cell BK460.out 0).trans rfl, (blk_cell BK460.out 1).trans rfl, (blk_cell BK460.out 2).trans rfl, (blk_cell BK460.out 3).trans rfl, ((HB.out.cell (World.block_lt_of_cell? w _ hw468_0)).trans hw468_0), ((HB.out.cell (World.block_lt_of_cell? w _ hw468_1)).trans hw468_1)⟩ (fun hHeld => ?_)
            clear hK K
            refine norm_ (a' := ?_) ?_ ?_
            rotate_left
            ·
             show Act.put _ (some 84) _ = _
             simp only [Act.put, List.setIfInBounds_toArray, List.set_cons_zero, List.set_cons_succ, i64_w, i32_w]
             rfl
            refine pure_ (i := 9) (N := some 9) (v := ?_) (a' := ?_) #[true, true, true, true, true, true, true, true, true, true] rfl rfl (any_of HT_.out (by kernel_rfl)) (fun _ _ _ h => h) (Or.inl ⟨by rfl, ?_⟩) ?_ ?_
            rotate_left
            ·
             intro w'
             go_simp
             with_reducible rfl
            rotate_left
            ·
             simp only [Act.put, List.setIfInBounds_toArray, List.set_cons_zero, List.set_cons_succ, i64_w, i32_w]
             rfl
            refine done_ (done_of HT_.out (by kernel_rfl)) ?_
            have hnb60 := NB461_460.out
            have hnc60 := NB460_461.out
            have hcz61_0 := cz0 BK461.out
            have hcz61_1 := cz1 BK461.out
            have hcz61_2 := cz2 BK461.out
            have hcz61_3 := cz3 BK461.out
            have hfz61_0 := fz BK461 0
            have hfz61_1 := fz BK461 1
            have hfz61_2 := fz BK461 2
            have hfz61_3 := fz BK461 3
            try go_wp2
            refine bodyPost_ret (results_cell_row rfl _ _ gb461 30 #[.int .i64 t469, .int .i64 a1, .int .i64 8, .int .i64 x8_2] (0, 0) _ rfl (by (with_reducible repeat (first | refine blk_drewN ?_ _ | refine blk_drew ?_ | refine blk_alloc ?_ _)); refine blk_put (cs := #[.int .i64 t469, .int .i64 a1, .int .i64 8, .int .i64 x462003_2]) ?_ 3 _ rfl; (with_reducible repeat (first | refine blk_drewN ?_ _ | refine blk_drew ?_ | refine blk_alloc ?_ _)); refine blk_put (cs := #[.int .i64 t469, .int .i64 a1, .int .i64 x462002_2, .int .i64 x462003_2]) ?_ 2 _ rfl; (with_reducible repeat (first | refine blk_drewN ?_ _ | refine blk_drew ?_ | refine blk_alloc ?_ _)); refine blk_put (cs := #[.int .i64 t469, .int .i64 x462001_2, .int .i64 x462002_2, .int .i64 x462003_2]) ?_ 1 _ rfl; (with_reducible repeat (first | refine blk_drewN ?_ _ | refine blk_drew ?_ | refine blk_alloc ?_ _)); refine blk_put (cs := #[.int .i64 x462000_2, .int .i64 x462001_2, .int .i64 x462002_2, .int .i64 x462003_2]) ?_ 0 _ rfl; (with_reducible repeat (first | refine blk_drewN ?_ _ | refine blk_drew ?_ | refine blk_alloc ?_ _)); exact BK461.out) Try.underlying30 rfl (by kernel_rfl)) rfl ?_
            exact ⟨xq, bs⟩
          ·
           rw [if_neg c47] at H
           exact absurd H (by simp)
         ·
          rw [if_neg c46] at H
          have c46b0 : decide (x8_2 < (((rd_T38 l0_3 a1).f3).length : Int)) = false := decide_eq_false c46
          clear c46
          by_cases c62 : (((rd_T38 l0_3 a1).f4).length : Int) = 0
          ·
           rw [if_pos c62] at H
           have c62b0 : ((((rd_T38 l0_3 a1).f4).length : Int) == 0) = true := beq_iff_eq.mpr c62
           have c62b1 : ((((rd_T38 l0_3 a1).f4).length : Int) != 0) = false := bne_eq_false_iff_eq.mpr c62
           clear c62
           simp only [Option.some.injEq, Prod.mk.injEq] at H
           obtain ⟨rfl, rfl, rfl, rfl⟩ := H
           have hnb63 := NB463_460.out
           have hnc63 := NB460_463.out
           have hnb64 := NB463_461.out
           have hnc64 := NB461_463.out
           have hcz65_0 := cz0 BK463.out
           have hcz65_1 := cz1 BK463.out
           have hcz65_2 := cz2 BK463.out
           have hcz65_3 := cz3 BK463.out
           have hcz65_4 := cz4 BK463.out
           have hfz65_0 := fz BK463 0
           have hfz65_1 := fz BK463 1
           have hfz65_2 := fz BK463 2
           have hfz65_3 := fz BK463 3
           have hfz65_4 := fz BK463 4
           have hnb66 := NB461_460.out
           have hnc66 := NB460_461.out
           have hcz67_0 := cz0 BK461.out
           have hcz67_1 := cz1 BK461.out
           have hcz67_2 := cz2 BK461.out
           have hcz67_3 := cz3 BK461.out
           have hfz67_0 := fz BK461 0
           have hfz67_1 := fz BK461 1
           have hfz67_2 := fz BK461 2
           have hfz67_3 := fz BK461 3
           go_wp2
           refine bodyPost_ret (results_cell_row rfl _ _ gb461 30 #[.int .i64 2, .int .i64 a1, .int .i64 9, .int .i64 0] (0, 0) _ rfl (by (with_reducible repeat (first | refine blk_drewN ?_ _ | refine blk_drew ?_ | refine blk_alloc ?_ _)); refine blk_put (cs := #[.int .i64 2, .int .i64 a1, .int .i64 9, .int .i64 x462003_2]) ?_ 3 _ rfl; (with_reducible repeat (first | refine blk_drewN ?_ _ | refine blk_drew ?_ | refine blk_alloc ?_ _)); refine blk_put (cs := #[.int .i64 2, .int .i64 a1, .int .i64 x462002_2, .int .i64 x462003_2]) ?_ 2 _ rfl; (with_reducible repeat (first | refine blk_drewN ?_ _ | refine blk_drew ?_ | refine blk_alloc ?_ _)); refine blk_put (cs := #[.int .i64 2, .int .i64 x462001_2, .int .i64 x462002_2, .int .i64 x462003_2]) ?_ 1 _ rfl; (with_reducible repeat (first | refine blk_drewN ?_ _ | refine blk_drew ?_ | refine blk_alloc ?_ _)); refine blk_put (cs := #[.int .i64 x462000_2, .int .i64 x462001_2, .int .i64 x462002_2, .int .i64 x462003_2]) ?_ 0 _ rfl; (with_reducible repeat (first | refine blk_drewN ?_ _ | refine blk_drew ?_ | refine blk_alloc ?_ _)); exact BK461.out) Try.underlying30 rfl (by kernel_rfl)) rfl ?_
           exact ⟨xq, bs⟩
          ·
           rw [if_neg c62] at H
           have c62b0 : ((((rd_T38 l0_3 a1).f4).length : Int) == 0) = false := beq_eq_false_iff_ne.mpr c62
           have c62b1 : ((((rd_T38 l0_3 a1).f4).length : Int) != 0) = true := bne_iff_ne.mpr c62
           have c62b2 : ¬ (((rd_T38 l0_3 a1).f4) = []) := fun h_ => c62 (by rw [h_]; rfl)
           by_cases c68 : (((rd_T38 l0_3 a1).f4).length : Int) > 3
           ·
            rw [if_pos c68] at H
            have c68b0 : decide (3 < (((rd_T38 l0_3 a1).f4).length : Int)) = true := decide_eq_true c68
            have c68b1 : decide (3 < ((rd_T38 l0_3 a1).f4).length) = true := decide_eq_true (by omega)
            clear c68
            simp only [Option.some.injEq, Prod.mk.injEq] at H
            obtain ⟨rfl, rfl, rfl, rfl⟩ := H
            have hnb69 := NB463_460.out
            have hnc69 := NB460_463.out
            have hnb70 := NB463_461.out
            have hnc70 := NB461_463.out
            have hcz71_0 := cz0 BK463.out
            have hcz71_1 := cz1 BK463.out
            have hcz71_2 := cz2 BK463.out
            have hcz71_3 := cz3 BK463.out
            have hcz71_4 := cz4 BK463.out
            have hfz71_0 := fz BK463 0
            have hfz71_1 := fz BK463 1
            have hfz71_2 := fz BK463 2
            have hfz71_3 := fz BK463 3
            have hfz71_4 := fz BK463 4
            have hnb72 := NB461_460.out
            have hnc72 := NB460_461.out
            have hcz73_0 := cz0 BK461.out
            have hcz73_1 := cz1 BK461.out
            have hcz73_2 := cz2 BK461.out
            have hcz73_3 := cz3 BK461.out
            have hfz73_0 := fz BK461 0
            have hfz73_1 := fz BK461 1
            have hfz73_2 := fz BK461 2
            have hfz73_3 := fz BK461 3
            go_wp2
            refine bodyPost_ret (results_cell_row rfl _ _ gb461 30 #[.int .i64 4, .int .i64 a1, .int .i64 9, .int .i64 0] (0, 0) _ rfl (by (with_reducible repeat (first | refine blk_drewN ?_ _ | refine blk_drew ?_ | refine blk_alloc ?_ _)); refine blk_put (cs := #[.int .i64 4, .int .i64 a1, .int .i64 9, .int .i64 x462003_2]) ?_ 3 _ rfl; (with_reducible repeat (first | refine blk_drewN ?_ _ | refine blk_drew ?_ | refine blk_alloc ?_ _)); refine blk_put (cs := #[.int .i64 4, .int .i64 a1, .int .i64 x462002_2, .int .i64 x462003_2]) ?_ 2 _ rfl; (with_reducible repeat (first | refine blk_drewN ?_ _ | refine blk_drew ?_ | refine blk_alloc ?_ _)); refine blk_put (cs := #[.int .i64 4, .int .i64 x462001_2, .int .i64 x462002_2, .int .i64 x462003_2]) ?_ 1 _ rfl; (with_reducible repeat (first | refine blk_drewN ?_ _ | refine blk_drew ?_ | refine blk_alloc ?_ _)); refine blk_put (cs := #[.int .i64 x462000_2, .int .i64 x462001_2, .int .i64 x462002_2, .int .i64 x462003_2]) ?_ 0 _ rfl; (with_reducible repeat (first | refine blk_drewN ?_ _ | refine blk_drew ?_ | refine blk_alloc ?_ _)); exact BK461.out) Try.underlying30 rfl (by kernel_rfl)) rfl ?_
            exact ⟨xq, bs⟩
           ·
            rw [if_neg c68] at H
            have c68b0 : decide (3 < (((rd_T38 l0_3 a1).f4).length : Int)) = false := decide_eq_false c68
            have c68b1 : decide (3 < ((rd_T38 l0_3 a1).f4).length) = false := decide_eq_false (by omega)
            clear c68
            have H' := Am H
            clear H
            have hnb74 := NB463_460.out
            have hnc74 := NB460_463.out
            have hnb75 := NB463_461.out
            have hnc75 := NB461_463.out
            have hcz76_0 := cz0 BK463.out
            have hcz76_1 := cz1 BK463.out
            have hcz76_2 := cz2 BK463.out
            have hcz76_3 := cz3 BK463.out
            have hcz76_4 := cz4 BK463.out
            have hfz76_0 := fz BK463 0
            have hfz76_1 := fz BK463 1
            have hfz76_2 := fz BK463 2
            have hfz76_3 := fz BK463 3
            have hfz76_4 := fz BK463 4
            go_wp2
            go_loopg [10] k2 (fun kq v10 w' => ∃ (x10_3 : Int) (x462000_3 : Int) (x462001_3 : Int) (x462002_3 : Int) (x462003_3 : Int), v10 = .int .i64 x10_3 ∧ Aside0 (surmiseref05_rule.l3 kq a1 x10_3 l0_0 l0_1 l0_2 l0_3 ((rd_T38 l0_3 a1).f0) ((rd_T38 l0_3 a1).f1) ((rd_T38 l0_3 a1).f2) ((rd_T38 l0_3 a1).f3) ((rd_T38 l0_3 a1).f4) = some (r1, r2, r3, r4)) ∧ Aside0 (kq ≤ k2) ∧ Aside0 (w'.heap[gb460]? = some (.cells #[(.slice A0_0 l0_0.length c0_0), (.slice A0_1 l0_1.length c0_1), (.slice A0_2 l0_2.length c0_2), (.slice (some ad462) l0_3.length c0_3)] 26 (0, 0))) ∧ Aside0 (w'.heap[gb461]? = some (.cells #[.int .i64 x462000_3, .int .i64 x462001_3, .int .i64 x462002_3, .int .i64 x462003_3] 30 (0, 0))) ∧ Aside0 (w'.heap[gb463]? = some (.cells #[.string ((rd_T38 l0_3 a1).f0), .int .i64 ((rd_T38 l0_3 a1).f1), (.slice A462_2 ((rd_T38 l0_3 a1).f2).length c462_2), (.slice A462_3 ((rd_T38 l0_3 a1).f3).length c462_3), (.slice A462_4 ((rd_T38 l0_3 a1).f4).length c462_4)] 38 (0, 0))) ∧ Aside0 (Below w.heap.size w w'))
            case atStart => exact ⟨(0), (x462000_2), (x462001_2), (x462002_2), (x462003_2), rq, H', ⟨Nat.le_refl _⟩, ⟨kB BK460⟩, ⟨kB BK461⟩, ⟨kB BK463⟩, ⟨bs⟩⟩
            case round =>
             clear H'
             try clear c1
             try clear c2
             try clear p2
             try clear c3
             try clear c3b0
             try clear c4
             try clear c4b0
             try clear p4
             try clear q4
             try clear hx4
             try clear c5
             try clear c6
             try clear p6
             try clear c7
             try clear c10
             try clear c11
             try clear c13
             try clear c13b0
             try clear c15
             try clear c16
             try clear c18
             try clear c18b0
             try clear c19
             try clear c19b0
             try clear c22
             try clear c23
             try clear c24
             try clear c26
             try clear c26b0
             try clear c27
             try clear c27b0
             try clear c28
             try clear c28b0
             try clear c29
             try clear c29b0
             try clear c30
             try clear c30b0
             try clear c31
             try clear c31b0
             try clear c31b1
             try clear c33
             try clear c34
             try clear c37
             try clear c37b0
             try clear c37b1
             try clear c38
             try clear c39
             try clear c41
             try clear c43
             try clear c44
             try clear c46
             try clear c46b0
             try clear p46
             try clear q46
             try clear hx46
             try clear c47
             try clear c47b0
             try clear c49
             try clear c49b0
             try clear c49b1
             try clear c50
             try clear c51
             try clear c53
             try clear c55
             try clear c56
             try clear c60
             try clear c62
             try clear c62b0
             try clear c62b1
             try clear c62b2
             try clear c63
             try clear c64
             try clear p64
             try clear c66
             try clear c68
             try clear c68b0
             try clear c68b1
             try clear c69
             try clear c70
             try clear c72
             try clear c74
             try clear c75
             try clear hcz12_0
             try clear hcz12_1
             try clear hcz12_2
             try clear hcz12_3
             try clear hcz12_4
             try clear hcz17_0
             try clear hcz17_1
             try clear hcz17_2
             try clear hcz17_3
             try clear hcz17_4
             try clear hcz25_0
             try clear hcz25_1
             try clear hcz25_2
             try clear hcz25_3
             try clear hcz35_0
             try clear hcz35_1
             try clear hcz35_2
             try clear hcz35_3
             try clear hcz40_0
             try clear hcz40_1
             try clear hcz40_2
             try clear hcz40_3
             try clear hcz40_4
             try clear hcz42_0
             try clear hcz42_1
             try clear hcz42_2
             try clear hcz42_3
             try clear hcz45_0
             try clear hcz45_1
             try clear hcz45_2
             try clear hcz45_3
             try clear hcz45_4
             try clear hcz52_0
             try clear hcz52_1
             try clear hcz52_2
             try clear hcz52_3
             try clear hcz52_4
             try clear hcz57_0
             try clear hcz57_1
             try clear hcz57_2
             try clear hcz57_3
             try clear hcz57_4
             try clear hcz61_0
             try clear hcz61_1
             try clear hcz61_2
             try clear hcz61_3
             try clear hcz65_0
             try clear hcz65_1
             try clear hcz65_2
             try clear hcz65_3
             try clear hcz65_4
             try clear hcz67_0
             try clear hcz67_1
             try clear hcz67_2
             try clear hcz67_3
             try clear hcz71_0
             try clear hcz71_1
             try clear hcz71_2
             try clear hcz71_3
             try clear hcz71_4
             try clear hcz73_0
             try clear hcz73_1
             try clear hcz73_2
             try clear hcz73_3
             try clear hcz76_0
             try clear hcz76_1
             try clear hcz76_2
             try clear hcz76_3
             try clear hcz76_4
             try clear hcz8_0
             try clear hcz8_1
             try clear hcz8_2
             try clear hcz8_3
             try clear hfz12_0
             try clear hfz12_1
             try clear hfz12_2
             try clear hfz12_3
             try clear hfz12_4
             try clear hfz17_0
             try clear hfz17_1
             try clear hfz17_2
             try clear hfz17_3
             try clear hfz17_4
             try clear hfz25_0
             try clear hfz25_1
             try clear hfz25_2
             try clear hfz25_3
             try clear hfz35_0
             try clear hfz35_1
             try clear hfz35_2
             try clear hfz35_3
             try clear hfz40_0
             try clear hfz40_1
             try clear hfz40_2
             try clear hfz40_3
             try clear hfz40_4
             try clear hfz42_0
             try clear hfz42_1
             try clear hfz42_2
             try clear hfz42_3
             try clear hfz45_0
             try clear hfz45_1
             try clear hfz45_2
             try clear hfz45_3
             try clear hfz45_4
             try clear hfz52_0
             try clear hfz52_1
             try clear hfz52_2
             try clear hfz52_3
             try clear hfz52_4
             try clear hfz57_0
             try clear hfz57_1
             try clear hfz57_2
             try clear hfz57_3
             try clear hfz57_4
             try clear hfz61_0
             try clear hfz61_1
             try clear hfz61_2
             try clear hfz61_3
             try clear hfz65_0
             try clear hfz65_1
             try clear hfz65_2
             try clear hfz65_3
             try clear hfz65_4
             try clear hfz67_0
             try clear hfz67_1
             try clear hfz67_2
             try clear hfz67_3
             try clear hfz71_0
             try clear hfz71_1
             try clear hfz71_2
             try clear hfz71_3
             try clear hfz71_4
             try clear hfz73_0
             try clear hfz73_1
             try clear hfz73_2
             try clear hfz73_3
             try clear hfz76_0
             try clear hfz76_1
             try clear hfz76_2
             try clear hfz76_3
             try clear hfz76_4
             try clear hfz8_0
             try clear hfz8_1
             try clear hfz8_2
             try clear hfz8_3
             try clear hx462_0
             try clear hx462_1
             try clear hx462_2
             try clear hx462_3
             try clear hx462_4
             try clear hx464_0
             try clear hx465_0
             try clear hx466_0
             try clear hx467_0
             try clear hx468_0
             try clear hx468_1
             try clear p2
             try clear p4
             try clear p462
             try clear p464
             try clear p465
             try clear p466
             try clear p467
             try clear p468
             try clear p6
             try clear q4
             try clear q462
             try clear q464
             try clear q465
             try clear q466
             try clear q467
             try clear q468
             obtain ⟨x10_3, x462000_3, x462001_3, x462002_3, x462003_3, rfl, HA, HK3, BK460, BK461, BK463, HB⟩ := hrel
             cases gk with
             | zero => exact absurd HA.out (by simp [surmiseref05_rule.l3])
             | succ k3 =>
              have H := HA.out
              clear HA
              simp only [surmiseref05_rule.l3] at H
              by_cases c77 : x10_3 < (((rd_T38 l0_3 a1).f4).length : Int)
              ·
               rw [if_pos c77] at H
               have c77b0 : decide (x10_3 < (((rd_T38 l0_3 a1).f4).length : Int)) = true := decide_eq_true c77
               clear c77
               by_cases c78 : 0 ≤ x10_3
               ·
                rw [if_pos c78] at H
                have c78b0 : decide (0 ≤ x10_3) = true := decide_eq_true c78
                clear c78
                obtain ⟨t471, A790, H⟩ := Option.bind_eq_some_iff.mp H
                replace H : (if t471 = 0 then (surmiseref05_rule.l3 k3 a1 (wrap64 (x10_3 + 1)) l0_0 l0_1 l0_2 l0_3 ((rd_T38 l0_3 a1).f0) ((rd_T38 l0_3 a1).f1) ((rd_T38 l0_3 a1).f2) ((rd_T38 l0_3 a1).f3) ((rd_T38 l0_3 a1).f4)) else (some (t471, a1, 9, x10_3))) = some (r1, r2, r3, r4) := H
                have A79 := Am A790
                clear A790
                by_cases c80 : t471 = 0
                ·
                 rw [if_pos c80] at H
                 have c80b0 : (t471 == 0) = true := beq_iff_eq.mpr c80
                 have c80b1 : (t471 != 0) = false := bne_eq_false_iff_eq.mpr c80
                 clear c80
                 have H' := Am H
                 clear H
                 have hnb81 := NB463_460.out
                 have hnc81 := NB460_463.out
                 have hnb82 := NB463_461.out
                 have hnc82 := NB461_463.out
                 have hcz83_0 := cz0 BK463.out
                 have hcz83_1 := cz1 BK463.out
                 have hcz83_2 := cz2 BK463.out
                 have hcz83_3 := cz3 BK463.out
                 have hcz83_4 := cz4 BK463.out
                 have hfz83_0 := fz BK463 0
                 have hfz83_1 := fz BK463 1
                 have hfz83_2 := fz BK463 2
                 have hfz83_3 := fz BK463 3
                 have hfz83_4 := fz BK463 4
                 try go_wp2
                 have n0_ := Am (blk_drew BK460.out)
                 have n1_ := Am (blk_drew BK461.out)
                 have n2_ := Am (blk_drew BK463.out)
                 have n3_ := Am (below_drew1 HB.out)
                 clear BK460
                 clear BK461
                 clear BK463
                 clear HB
                 have BK460 := n0_
                 have BK461 := n1_
                 have BK463 := n2_
                 have HB := n3_
                 clear n0_ n1_ n2_ n3_
                 have p470 : 0 ≤ (x10_3 : Int) := of_decide_eq_true az
                 have q470 : x10_3 < (((rd_T38 l0_3 a1).f4).length : Int) := of_decide_eq_true az
                 obtain ⟨ad470, A470_0, c470_0, e470, hx470_0, hx470_1, hl470_0, hi470_0⟩ := at_T60 HR462_4.out x10_3 p470 q470
                 have hw470_1 := hx470_1
                 have hw470_0 := hx470_0
                 cases e470
                 replace hx470_0 := hX HB hx470_0
                 replace hx470_1 := hX HB hx470_1
                 have HR470_0 := Am hi470_0
                 have HC470_0 := Am hl470_0
                 clear hi470_0 hl470_0
                 replace p470 := eq_true p470
                 replace q470 := eq_true q470
                 refine start_ (n := 10) (S := fun w' => w'.cell? ⟨gb463, 0, none⟩ = some (.string ((rd_T38 l0_3 a1).f0)) ∧ w'.cell? ⟨gb463, 1, none⟩ = some (.int .i64 ((rd_T38 l0_3 a1).f1)) ∧ w'.cell? ⟨gb463, 2, none⟩ = some (.slice A462_2 ((rd_T38 l0_3 a1).f2).length c462_2) ∧ w'.cell? ⟨gb463, 3, none⟩ = some (.slice A462_3 ((rd_T38 l0_3 a1).f3).length c462_3) ∧ w'.cell? ⟨gb463, 4, none⟩ = some (.slice (some ad470) ((rd_T38 l0_3 a1).f4).length c462_4) ∧ w'.cell? ⟨gb460, 0, none⟩ = some (.slice A0_0 l0_0.length c0_0) ∧ w'.cell? ⟨gb460, 1, none⟩ = some (.slice A0_1 l0_1.length c0_1) ∧ w'.cell? ⟨gb460, 2, none⟩ = some (.slice A0_2 l0_2.length c0_2) ∧ w'.cell? ⟨gb460, 3, none⟩ = some (.slice (some ad462) l0_3.length c0_3) ∧ w'.cell? (ad470.add ((x10_3).toNat * 2)) = some (.slice A470_0 ((rd_T60 ((rd_T38 l0_3 a1).f4) x10_3).f0).length c470_0) ∧ w'.cell? ⟨(ad470.add ((x10_3).toNat * 2)).block, (ad470.add ((x10_3).toNat * 2)).off + 1, none⟩ = some (.int .i64 ((rd_T60 ((rd_T38 l0_3 a1).f4) x10_3).f1))) (ds := []) #[false, false, false, false, false, false, false, false, false, false] (by kernel_rfl) rfl rfl ⟨(blk_cell BK463.out 0).trans rfl, (blk_cell BK463.out 1).trans rfl, (blk_cell BK463.out 2).trans rfl, (blk_cell BK463.out 3).trans rfl, (blk_cell BK463.out 4).trans rfl, (blk_cell BK460.out 0).trans rfl, (blk_cell BK460.out 1).trans rfl, (blk_cell BK460.out 2).trans rfl, (blk_cell BK460.out 3).trans rfl, ((HB.out.cell (World.block_lt_of_cell? w _ hw470_0)).trans hw470_0), ((HB.out.cell (World.block_lt_of_cell? w _ hw470_1)).trans hw470_1)⟩ (fun hHeld => ?_); refine with_tabW surmiseref05_rule.tab27 surmiseref05_rule.bits27 (fun HT_ HW_ => ?_)
                 generalize wr.drew = w84 at BK460 BK461 BK463 HB HR470_0 hx470_0 hx470_1 hHeld ⊢
                 refine pure_ (i := 0) (N := some 110) (v := ?_) (a' := ?_) #[true, false, false, false, false, false, false, false, false, false] rfl rfl (any_of HT_.out (by kernel_rfl)) (fun _ _ _ h => h) (Or.inl ⟨by rfl, ?_⟩) ?_ ?_
                 rotate_left
                 ·
                  intro w'
                  go_simp
                  with_reducible rfl
                 rotate_left
                 ·
                  simp only [Act.put, List.setIfInBounds_toArray, List.set_cons_zero, List.set_cons_succ, i64_w, i32_w]
                  rfl
                 refine pure_ (i := 2) (N := some 112) (v := ?_) (a' := ?_) #[true, false, true, false, false, false, false, false, false, false] rfl rfl (any_of HT_.out (by kernel_rfl)) (fun _ _ _ h => h) (Or.inl ⟨by rfl, ?_⟩) ?_ ?_
                 rotate_left
                 ·
                  intro w'
                  go_simp
                  with_reducible rfl
                 rotate_left
                 ·
                  simp only [Act.put, List.setIfInBounds_toArray, List.set_cons_zero, List.set_cons_succ, i64_w, i32_w]
                  rfl
                 refine pure_ (i := 6) (N := some 116) (v := ?_) (a' := ?_) #[true, false, true, false, false, false, true, false, false, false] rfl rfl (any_of HT_.out (by kernel_rfl)) (fun _ _ _ h => h) (Or.inl ⟨by rfl, ?_⟩) ?_ ?_
                 rotate_left
                 ·
                  intro w'
                  go_simp
                  with_reducible rfl
                 rotate_left
                 ·
                  simp only [Act.put, List.setIfInBounds_toArray, List.set_cons_zero, List.set_cons_succ, i64_w, i32_w]
                  rfl
                 refine take_ (i := 1) (N := some 111) (v := ?_) (a' := ?_) #[true, true, true, false, false, false, true, false, false, false] rfl rfl (take_ofW HT_.out HW_.out (by kernel_rfl)) (fun _ _ _ h => h) (Or.inl ⟨by rfl, ?_⟩) hHeld ?_ ?_
                 rotate_left
                 ·
                  rintro w' ⟨s0, s1, s2, s3, s4, s5, s6, s7, s8, s9, s10⟩
                  go_simp
                  with_reducible rfl
                 rotate_left
                 ·
                  simp only [Act.put, List.setIfInBounds_toArray, List.set_cons_zero, List.set_cons_succ, i64_w, i32_w]
                  rfl
                 refine pure_ (i := 3) (N := some 113) (v := ?_) (a' := ?_) #[true, true, true, true, false, false, true, false, false, false] rfl rfl (any_of HT_.out (by kernel_rfl)) (fun _ _ _ h => h) (Or.inl ⟨by rfl, ?_⟩) ?_ ?_
                 rotate_left
                 ·
                  intro w'
                  go_simp
                  with_reducible rfl
                 rotate_left
                 ·
                  simp only [Act.put, List.setIfInBounds_toArray, List.set_cons_zero, List.set_cons_succ, i64_w, i32_w]
                  rfl
                 refine take_ (i := 4) (N := some 114) (v := ?_) (a' := ?_) #[true, true, true, true, true, false, true, false, false, false] rfl rfl (take_ofW HT_.out HW_.out (by kernel_rfl)) (fun _ _ _ h => h) (Or.inl ⟨by rfl, ?_⟩) hHeld ?_ ?_
                 rotate_left
                 ·
                  rintro w' ⟨s0, s1, s2, s3, s4, s5, s6, s7, s8, s9, s10⟩
                  go_simp
                  with_reducible rfl
                 rotate_left
                 ·
                  simp only [Act.put, List.setIfInBounds_toArray, List.set_cons_zero, List.set_cons_succ, i64_w, i32_w]
                  rfl
                 refine take_ (i := 5) (N := some 115) (v := ?_) (a' := ?_) #[true, true, true, true, true, true, true, false, false, false] rfl rfl (take_ofW HT_.out HW_.out (by kernel_rfl)) (fun _ _ _ h => h) (Or.inl ⟨by rfl, ?_⟩) hHeld ?_ ?_
                 rotate_left
                 ·
                  rintro w' ⟨s0, s1, s2, s3, s4, s5, s6, s7, s8, s9, s10⟩
                  go_simp
                  with_reducible rfl
                 rotate_left
                 ·
                  simp only [Act.put, List.setIfInBounds_toArray, List.set_cons_zero, List.set_cons_succ, i64_w, i32_w]
                  rfl
                 refine take_ (i := 7) (N := some 117) (v := ?_) (a' := ?_) #[true, true, true, true, true, true, true, true, false, false] rfl rfl (take_ofW HT_.out HW_.out (by kernel_rfl)) (fun _ _ _ h => h) (Or.inl ⟨by rfl, ?_⟩) hHeld ?_ ?_
                 rotate_left
                 ·
                  rintro w' ⟨s0, s1, s2, s3, s4, s5, s6, s7, s8, s9, s10⟩
                  go_simp
                  with_reducible rfl
                 rotate_left
                 ·
                  simp only [Act.put, List.setIfInBounds_toArray, List.set_cons_zero, List.set_cons_succ, i64_w, i32_w]
                  rfl
                 refine one_ (i := 8) (N := some 118) #[true, true, true, true, true, true, true, true, true, false] rfl rfl (one_of HT_.out (by kernel_rfl)) (by decide) (fun K hK => ?_)
                 refine goes_ Try.func54 (by kernel_rfl) rfl #[.agg #[.slice A470_0 ((rd_T60 ((rd_T38 l0_3 a1).f4) x10_3).f0).length c470_0, .int .i64 ((rd_T60 ((rd_T38 l0_3 a1).f4) x10_3).f1)], .agg #[.slice A0_0 l0_0.length c0_0, .slice A0_1 l0_1.length c0_1, .slice A0_2 l0_2.length c0_2, .slice (some ad462) l0_3.length c0_3], .int .i64 ((rd_T38 l0_3 a1).f1)] (by rfl) rfl rfl aq ?_
                 with_reducible refine (surmiseref05_step.calls k3 _ _ ((rd_T60 ((rd_T38 l0_3 a1).f4) x10_3).f0) ((rd_T60 ((rd_T38 l0_3 a1).f4) x10_3).f1) _ _ l0_0 _ _ l0_1 _ _ l0_2 _ _ l0_3 ((rd_T38 l0_3 a1).f1) t471 _ ?side1 ?side2 ?side3 ?side4 ?side5 ?side6 ?side7 ?side8 ?side9 ?side10 A79.out).mono ?_
                 (case side1 => exact kC HR470_0)
                 (case side2 => exact HC470_0.out)
                 (case side3 => exact kC HR0_0)
                 (case side4 => exact HC0_0.out)
                 (case side5 => exact kC HR0_1)
                 (case side6 => exact HC0_1.out)
                 (case side7 => exact kC HR0_2)
                 (case side8 => exact HC0_2.out)
                 (case side9 => exact kC HR0_3)
                 (case side10 => exact HC0_3.out)
                 rintro e w85 ⟨rfl, hb⟩
                 refine ⟨_, rfl, ?_⟩
                 have n0_ := Am (blk_below (kB BK460) hb)
                 have n1_ := Am (blk_below (kB BK461) hb)
                 have n2_ := Am (blk_below (kB BK463) hb)
                 have n3_ := Am (below_step (bs) hb)
                 clear BK460
                 clear BK461
                 clear BK463
                 clear HB
                 have BK460 := n0_
                 have BK461 := n1_
                 have BK463 := n2_
                 have HB := n3_
                 clear n0_ n1_ n2_ n3_
                 (try clear hb)
                 (try clear hb2)
                 (try clear hk)
                 (try clear hi)
                 refine hK.out _ _ ⟨(blk_cell BK463.out 0).trans rfl, (blk_cell BK463.out 1).trans rfl, (blk_cell BK463.out 2).trans rfl, (blk_cell BK463.out 3).trans rfl, (blk_cell BK463.out 4).trans rfl, (blk_cell BK460.out 0).trans rfl, (blk_cell BK460.out 1).trans rfl, (blk_cell BK460.out 2).trans rfl, (blk_cell BK460.out 3).trans rfl, ((HB.out.cell (World.block_lt_of_cell? w _ hw470_0)).trans hw470_0), ((HB.out.cell (World.block_lt_of_cell? w _ hw470_1)).trans hw470_1)⟩ (fun hHeld => ?_)
                 clear hK K
                 refine norm_ (a' := ?_) ?_ ?_
                 rotate_left
                 ·
                  show Act.put _ (some 118) _ = _
                  simp only [Act.put, List.setIfInBounds_toArray, List.set_cons_zero, List.set_cons_succ, i64_w, i32_w]
                  rfl
                 refine pure_ (i := 9) (N := some 11) (v := ?_) (a' := ?_) #[true, true, true, true, true, true, true, true, true, true] rfl rfl (any_of HT_.out (by kernel_rfl)) (fun _ _ _ h => h) (Or.inl ⟨by rfl, ?_⟩) ?_ ?_
                 rotate_left
                 ·
                  intro w'
                  go_simp
                  with_reducible rfl
                 rotate_left
                 ·
                  simp only [Act.put, List.setIfInBounds_toArray, List.set_cons_zero, List.set_cons_succ, i64_w, i32_w]
                  rfl
                 refine done_ (done_of HT_.out (by kernel_rfl)) ?_
                 try go_wp2
                 go_roundg k3
                 case measure => have := HK1.out; have := HK2.out; have := HK3.out; omega
                 case rel => exact ⟨(wrap64 (x10_3 + 1)), (x462000_3), (x462001_3), (x462002_3), (x462003_3), rq, H', ⟨by have := HK1.out; have := HK2.out; have := HK3.out; omega⟩, ⟨kB BK460⟩, ⟨kB BK461⟩, ⟨kB BK463⟩, ⟨bs⟩⟩
                ·
                 rw [if_neg c80] at H
                 have c80b0 : (t471 == 0) = false := beq_eq_false_iff_ne.mpr c80
                 have c80b1 : (t471 != 0) = true := bne_iff_ne.mpr c80
                 simp only [Option.some.injEq, Prod.mk.injEq] at H
                 obtain ⟨rfl, rfl, rfl, rfl⟩ := H
                 have hnb86 := NB463_460.out
                 have hnc86 := NB460_463.out
                 have hnb87 := NB463_461.out
                 have hnc87 := NB461_463.out
                 have hcz88_0 := cz0 BK463.out
                 have hcz88_1 := cz1 BK463.out
                 have hcz88_2 := cz2 BK463.out
                 have hcz88_3 := cz3 BK463.out
                 have hcz88_4 := cz4 BK463.out
                 have hfz88_0 := fz BK463 0
                 have hfz88_1 := fz BK463 1
                 have hfz88_2 := fz BK463 2
                 have hfz88_3 := fz BK463 3
                 have hfz88_4 := fz BK463 4
                 try go_wp2
                 have n0_ := Am (blk_drew BK460.out)
                 have n1_ := Am (blk_drew BK461.out)
                 have n2_ := Am (blk_drew BK463.out)
                 have n3_ := Am (below_drew1 HB.out)
                 clear BK460
                 clear BK461
                 clear BK463
                 clear HB
                 have BK460 := n0_
                 have BK461 := n1_
                 have BK463 := n2_
                 have HB := n3_
                 clear n0_ n1_ n2_ n3_
                 have p470 : 0 ≤ (x10_3 : Int) := of_decide_eq_true az
                 have q470 : x10_3 < (((rd_T38 l0_3 a1).f4).length : Int) := of_decide_eq_true az
                 obtain ⟨ad470, A470_0, c470_0, e470, hx470_0, hx470_1, hl470_0, hi470_0⟩ := at_T60 HR462_4.out x10_3 p470 q470
                 have hw470_1 := hx470_1
                 have hw470_0 := hx470_0
                 cases e470
                 replace hx470_0 := hX HB hx470_0
                 replace hx470_1 := hX HB hx470_1
                 have HR470_0 := Am hi470_0
                 have HC470_0 := Am hl470_0
                 clear hi470_0 hl470_0
                 replace p470 := eq_true p470
                 replace q470 := eq_true q470
                 refine start_ (n := 10) (S := fun w' => w'.cell? ⟨gb463, 0, none⟩ = some (.string ((rd_T38 l0_3 a1).f0)) ∧ w'.cell? ⟨gb463, 1, none⟩ = some (.int .i64 ((rd_T38 l0_3 a1).f1)) ∧ w'.cell? ⟨gb463, 2, none⟩ = some (.slice A462_2 ((rd_T38 l0_3 a1).f2).length c462_2) ∧ w'.cell? ⟨gb463, 3, none⟩ = some (.slice A462_3 ((rd_T38 l0_3 a1).f3).length c462_3) ∧ w'.cell? ⟨gb463, 4, none⟩ = some (.slice (some ad470) ((rd_T38 l0_3 a1).f4).length c462_4) ∧ w'.cell? ⟨gb460, 0, none⟩ = some (.slice A0_0 l0_0.length c0_0) ∧ w'.cell? ⟨gb460, 1, none⟩ = some (.slice A0_1 l0_1.length c0_1) ∧ w'.cell? ⟨gb460, 2, none⟩ = some (.slice A0_2 l0_2.length c0_2) ∧ w'.cell? ⟨gb460, 3, none⟩ = some (.slice (some ad462) l0_3.length c0_3) ∧ w'.cell? (ad470.add ((x10_3).toNat * 2)) = some (.slice A470_0 ((rd_T60 ((rd_T38 l0_3 a1).f4) x10_3).f0).length c470_0) ∧ w'.cell? ⟨(ad470.add ((x10_3).toNat * 2)).block, (ad470.add ((x10_3).toNat * 2)).off + 1, none⟩ = some (.int .i64 ((rd_T60 ((rd_T38 l0_3 a1).f4) x10_3).f1))) (ds := []) #[false, false, false, false, false, false, false, false, false, false] (by kernel_rfl) rfl rfl ⟨(blk_cell BK463.out 0).trans rfl, (blk_cell BK463.out 1).trans rfl, (blk_cell BK463.out 2).trans rfl, (blk_cell BK463.out 3).trans rfl, (blk_cell BK463.out 4).trans rfl, (blk_cell BK460.out 0).trans rfl, (blk_cell BK460.out 1).trans rfl, (blk_cell BK460.out 2).trans rfl, (blk_cell BK460.out 3).trans rfl, ((HB.out.cell (World.block_lt_of_cell? w _ hw470_0)).trans hw470_0), ((HB.out.cell (World.block_lt_of_cell? w _ hw470_1)).trans hw470_1)⟩ (fun hHeld => ?_); refine with_tabW surmiseref05_rule.tab27 surmiseref05_rule.bits27 (fun HT_ HW_ => ?_)
                 generalize wr.drew = w89 at BK460 BK461 BK463 HB HR470_0 hx470_0 hx470_1 hHeld ⊢
                 refine pure_ (i := 0) (N := some 110) (v := ?_) (a' := ?_) #[true, false, false, false, false, false, false, false, false, false] rfl rfl (any_of HT_.out (by kernel_rfl)) (fun _ _ _ h => h) (Or.inl ⟨by rfl, ?_⟩) ?_ ?_
                 rotate_left
                 ·
                  intro w'
                  go_simp
                  with_reducible rfl
                 rotate_left
                 ·
                  simp only [Act.put, List.setIfInBounds_toArray, List.set_cons_zero, List.set_cons_succ, i64_w, i32_w]
                  rfl
                 refine pure_ (i := 2) (N := some 112) (v := ?_) (a' := ?_) #[true, false, true, false, false, false, false, false, false, false] rfl rfl (any_of HT_.out (by kernel_rfl)) (fun _ _ _ h => h) (Or.inl ⟨by rfl, ?_⟩) ?_ ?_
                 rotate_left
                 ·
                  intro w'
                  go_simp
                  with_reducible rfl
                 rotate_left
                 ·
                  simp only [Act.put, List.setIfInBounds_toArray, List.set_cons_zero, List.set_cons_succ, i64_w, i32_w]
                  rfl
                 refine pure_ (i := 6) (N := some 116) (v := ?_) (a' := ?_) #[true, false, true, false, false, false, true, false, false, false] rfl rfl (any_of HT_.out (by kernel_rfl)) (fun _ _ _ h => h) (Or.inl ⟨by rfl, ?_⟩) ?_ ?_
                 rotate_left
                 ·
                  intro w'
                  go_simp
                  with_reducible rfl
                 rotate_left
                 ·
                  simp only [Act.put, List.setIfInBounds_toArray, List.set_cons_zero, List.set_cons_succ, i64_w, i32_w]
                  rfl
                 refine take_ (i := 1) (N := some 111) (v := ?_) (a' := ?_) #[true, true, true, false, false, false, true, false, false, false] rfl rfl (take_ofW HT_.out HW_.out (by kernel_rfl)) (fun _ _ _ h => h) (Or.inl ⟨by rfl, ?_⟩) hHeld ?_ ?_
                 rotate_left
                 ·
                  rintro w' ⟨s0, s1, s2, s3, s4, s5, s6, s7, s8, s9, s10⟩
                  go_simp
                  with_reducible rfl
                 rotate_left
                 ·
                  simp only [Act.put, List.setIfInBounds_toArray, List.set_cons_zero, List.set_cons_succ, i64_w, i32_w]
                  rfl
                 refine pure_ (i := 3) (N := some 113) (v := ?_) (a' := ?_) #[true, true, true, true, false, false, true, false, false, false] rfl rfl (any_of HT_.out (by kernel_rfl)) (fun _ _ _ h => h) (Or.inl ⟨by rfl, ?_⟩) ?_ ?_
                 rotate_left
                 ·
                  intro w'
                  go_simp
                  with_reducible rfl
                 rotate_left
                 ·
                  simp only [Act.put, List.setIfInBounds_toArray, List.set_cons_zero, List.set_cons_succ, i64_w, i32_w]
                  rfl
                 refine take_ (i := 4) (N := some 114) (v := ?_) (a' := ?_) #[true, true, true, true, true, false, true, false, false, false] rfl rfl (take_ofW HT_.out HW_.out (by kernel_rfl)) (fun _ _ _ h => h) (Or.inl ⟨by rfl, ?_⟩) hHeld ?_ ?_
                 rotate_left
                 ·
                  rintro w' ⟨s0, s1, s2, s3, s4, s5, s6, s7, s8, s9, s10⟩
                  go_simp
                  with_reducible rfl
                 rotate_left
                 ·
                  simp only [Act.put, List.setIfInBounds_toArray, List.set_cons_zero, List.set_cons_succ, i64_w, i32_w]
                  rfl
                 refine take_ (i := 5) (N := some 115) (v := ?_) (a' := ?_) #[true, true, true, true, true, true, true, false, false, false] rfl rfl (take_ofW HT_.out HW_.out (by kernel_rfl)) (fun _ _ _ h => h) (Or.inl ⟨by rfl, ?_⟩) hHeld ?_ ?_
                 rotate_left
                 ·
                  rintro w' ⟨s0, s1, s2, s3, s4, s5, s6, s7, s8, s9, s10⟩
                  go_simp
                  with_reducible rfl
                 rotate_left
                 ·
                  simp only [Act.put, List.setIfInBounds_toArray, List.set_cons_zero, List.set_cons_succ, i64_w, i32_w]
                  rfl
                 refine take_ (i := 7) (N := some 117) (v := ?_) (a' := ?_) #[true, true, true, true, true, true, true, true, false, false] rfl rfl (take_ofW HT_.out HW_.out (by kernel_rfl)) (fun _ _ _ h => h) (Or.inl ⟨by rfl, ?_⟩) hHeld ?_ ?_
                 rotate_left
                 ·
                  rintro w' ⟨s0, s1, s2, s3, s4, s5, s6, s7, s8, s9, s10⟩
                  go_simp
                  with_reducible rfl
                 rotate_left
                 ·
                  simp only [Act.put, List.setIfInBounds_toArray, List.set_cons_zero, List.set_cons_succ, i64_w, i32_w]
                  rfl
                 refine one_ (i := 8) (N := some 118) #[true, true, true, true, true, true, true, true, true, false] rfl rfl (one_of HT_.out (by kernel_rfl)) (by decide) (fun K hK => ?_)
                 refine goes_ Try.func54 (by kernel_rfl) rfl #[.agg #[.slice A470_0 ((rd_T60 ((rd_T38 l0_3 a1).f4) x10_3).f0).length c470_0, .int .i64 ((rd_T60 ((rd_T38 l0_3 a1).f4) x10_3).f1)], .agg #[.slice A0_0 l0_0.length c0_0, .slice A0_1 l0_1.length c0_1, .slice A0_2 l0_2.length c0_2, .slice (some ad462) l0_3.length c0_3], .int .i64 ((rd_T38 l0_3 a1).f1)] (by rfl) rfl rfl aq ?_
                 with_reducible refine (surmiseref05_step.calls k3 _ _ ((rd_T60 ((rd_T38 l0_3 a1).f4) x10_3).f0) ((rd_T60 ((rd_T38 l0_3 a1).f4) x10_3).f1) _ _ l0_0 _ _ l0_1 _ _ l0_2 _ _ l0_3 ((rd_T38 l0_3 a1).f1) t471 _ ?side1 ?side2 ?side3 ?side4 ?side5 ?side6 ?side7 ?side8 ?side9 ?side10 A79.out).mono ?_
                 (case side1 => exact kC HR470_0)
                 (case side2 => exact HC470_0.out)
                 (case side3 => exact kC HR0_0)
                 (case side4 => exact HC0_0.out)
                 (case side5 => exact kC HR0_1)
                 (case side6 => exact HC0_1.out)
                 (case side7 => exact kC HR0_2)
                 (case side8 => exact HC0_2.out)
                 (case side9 => exact kC HR0_3)
                 (case side10 => exact HC0_3.out)
                 rintro e w90 ⟨rfl, hb⟩
                 refine ⟨_, rfl, ?_⟩
                 have n0_ := Am (blk_below (kB BK460) hb)
                 have n1_ := Am (blk_below (kB BK461) hb)
                 have n2_ := Am (blk_below (kB BK463) hb)
                 have n3_ := Am (below_step (bs) hb)
                 clear BK460
                 clear BK461
                 clear BK463
                 clear HB
                 have BK460 := n0_
                 have BK461 := n1_
                 have BK463 := n2_
                 have HB := n3_
                 clear n0_ n1_ n2_ n3_
                 (try clear hb)
                 (try clear hb2)
                 (try clear hk)
                 (try clear hi)
                 refine hK.out _ _ ⟨(blk_cell BK463.out 0).trans rfl, (blk_cell BK463.out 1).trans rfl, (blk_cell BK463.out 2).trans rfl, (blk_cell BK463.out 3).trans rfl, (blk_cell BK463.out 4).trans rfl, (blk_cell BK460.out 0).trans rfl, (blk_cell BK460.out 1).trans rfl, (blk_cell BK460.out 2).trans rfl, (blk_cell BK460.out 3).trans rfl, ((HB.out.cell (World.block_lt_of_cell? w _ hw470_0)).trans hw470_0), ((HB.out.cell (World.block_lt_of_cell? w _ hw470_1)).trans hw470_1)⟩ (fun hHeld => ?_)
                 clear hK K
                 refine norm_ (a' := ?_) ?_ ?_
                 rotate_left
                 ·
                  show Act.put _ (some 118) _ = _
                  simp only [Act.put, List.setIfInBounds_toArray, List.set_cons_zero, List.set_cons_succ, i64_w, i32_w]
                  rfl
                 refine pure_ (i := 9) (N := some 11) (v := ?_) (a' := ?_) #[true, true, true, true, true, true, true, true, true, true] rfl rfl (any_of HT_.out (by kernel_rfl)) (fun _ _ _ h => h) (Or.inl ⟨by rfl, ?_⟩) ?_ ?_
                 rotate_left
                 ·
                  intro w'
                  go_simp
                  with_reducible rfl
                 rotate_left
                 ·
                  simp only [Act.put, List.setIfInBounds_toArray, List.set_cons_zero, List.set_cons_succ, i64_w, i32_w]
                  rfl
                 refine done_ (done_of HT_.out (by kernel_rfl)) ?_
                 have hnb91 := NB461_460.out
                 have hnc91 := NB460_461.out
                 have hcz92_0 := cz0 BK461.out
                 have hcz92_1 := cz1 BK461.out
                 have hcz92_2 := cz2 BK461.out
                 have hcz92_3 := cz3 BK461.out
                 have hfz92_0 := fz BK461 0
                 have hfz92_1 := fz BK461 1
                 have hfz92_2 := fz BK461 2
                 have hfz92_3 := fz BK461 3
                 try go_wp2
                 refine bodyPost_ret (results_cell_row rfl _ _ gb461 30 #[.int .i64 t471, .int .i64 a1, .int .i64 9, .int .i64 x10_3] (0, 0) _ rfl (by (with_reducible repeat (first | refine blk_drewN ?_ _ | refine blk_drew ?_ | refine blk_alloc ?_ _)); refine blk_put (cs := #[.int .i64 t471, .int .i64 a1, .int .i64 9, .int .i64 x462003_3]) ?_ 3 _ rfl; (with_reducible repeat (first | refine blk_drewN ?_ _ | refine blk_drew ?_ | refine blk_alloc ?_ _)); refine blk_put (cs := #[.int .i64 t471, .int .i64 a1, .int .i64 x462002_3, .int .i64 x462003_3]) ?_ 2 _ rfl; (with_reducible repeat (first | refine blk_drewN ?_ _ | refine blk_drew ?_ | refine blk_alloc ?_ _)); refine blk_put (cs := #[.int .i64 t471, .int .i64 x462001_3, .int .i64 x462002_3, .int .i64 x462003_3]) ?_ 1 _ rfl; (with_reducible repeat (first | refine blk_drewN ?_ _ | refine blk_drew ?_ | refine blk_alloc ?_ _)); refine blk_put (cs := #[.int .i64 x462000_3, .int .i64 x462001_3, .int .i64 x462002_3, .int .i64 x462003_3]) ?_ 0 _ rfl; (with_reducible repeat (first | refine blk_drewN ?_ _ | refine blk_drew ?_ | refine blk_alloc ?_ _)); exact BK461.out) Try.underlying30 rfl (by kernel_rfl)) rfl ?_
                 exact ⟨xq, bs⟩
               ·
                rw [if_neg c78] at H
                exact absurd H (by simp)
              ·
               rw [if_neg c77] at H
               have c77b0 : decide (x10_3 < (((rd_T38 l0_3 a1).f4).length : Int)) = false := decide_eq_false c77
               clear c77
               simp only [Option.some.injEq, Prod.mk.injEq] at H
               obtain ⟨rfl, rfl, rfl, rfl⟩ := H
               have hnb93 := NB463_460.out
               have hnc93 := NB460_463.out
               have hnb94 := NB463_461.out
               have hnc94 := NB461_463.out
               have hcz95_0 := cz0 BK463.out
               have hcz95_1 := cz1 BK463.out
               have hcz95_2 := cz2 BK463.out
               have hcz95_3 := cz3 BK463.out
               have hcz95_4 := cz4 BK463.out
               have hfz95_0 := fz BK463 0
               have hfz95_1 := fz BK463 1
               have hfz95_2 := fz BK463 2
               have hfz95_3 := fz BK463 3
               have hfz95_4 := fz BK463 4
               have hnb96 := NB461_460.out
               have hnc96 := NB460_461.out
               have hcz97_0 := cz0 BK461.out
               have hcz97_1 := cz1 BK461.out
               have hcz97_2 := cz2 BK461.out
               have hcz97_3 := cz3 BK461.out
               have hfz97_0 := fz BK461 0
               have hfz97_1 := fz BK461 1
               have hfz97_2 := fz BK461 2
               have hfz97_3 := fz BK461 3
               go_wp2
               refine bodyPost_ret (results_cell_row rfl _ _ gb461 30 #[.int .i64 0, .int .i64 0, .int .i64 0, .int .i64 0] (0, 0) _ rfl (by (with_reducible repeat (first | refine blk_drewN ?_ _ | refine blk_drew ?_ | refine blk_alloc ?_ _)); refine blk_put (cs := #[.int .i64 0, .int .i64 0, .int .i64 0, .int .i64 x462003_3]) ?_ 3 _ rfl; (with_reducible repeat (first | refine blk_drewN ?_ _ | refine blk_drew ?_ | refine blk_alloc ?_ _)); refine blk_put (cs := #[.int .i64 0, .int .i64 0, .int .i64 x462002_3, .int .i64 x462003_3]) ?_ 2 _ rfl; (with_reducible repeat (first | refine blk_drewN ?_ _ | refine blk_drew ?_ | refine blk_alloc ?_ _)); refine blk_put (cs := #[.int .i64 0, .int .i64 x462001_3, .int .i64 x462002_3, .int .i64 x462003_3]) ?_ 1 _ rfl; (with_reducible repeat (first | refine blk_drewN ?_ _ | refine blk_drew ?_ | refine blk_alloc ?_ _)); refine blk_put (cs := #[.int .i64 x462000_3, .int .i64 x462001_3, .int .i64 x462002_3, .int .i64 x462003_3]) ?_ 0 _ rfl; (with_reducible repeat (first | refine blk_drewN ?_ _ | refine blk_drew ?_ | refine blk_alloc ?_ _)); exact BK461.out) Try.underlying30 rfl (by kernel_rfl)) rfl ?_
               exact ⟨xq, bs⟩
  ·
   rw [if_neg c4] at H
   exact absurd H (by simp)
 ·
  rw [if_neg c3] at H
  exact absurd H (by simp)

end Go.Proofs.Ytdfhbmallnegfaa.PA
