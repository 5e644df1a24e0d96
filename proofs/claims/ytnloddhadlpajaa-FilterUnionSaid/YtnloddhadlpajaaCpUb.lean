/-
  slices.SortFunc over texts, by pattern.Compare: by the library's contract.
-/
import Derived.Test.YtnloddhadlpajaaCpU
import Derived.Test.YtnloddhadlpajaaCpQ
import Derived.Test.YtnloddhadlpajaaCpUl
import Derived.Test.YtnloddhadlpajaaCpPb
import Derived.WalkKit
namespace Go.Vi.CYtnloddhadlpajaa
open Go.Vi Go.Proofs Go.Proofs.Ytnloddhadlpajaa Go.Shelf Go.RowKit Go.Lib Go.Sort
set_option linter.unusedVariables false
set_option linter.unusedSimpArgs false
set_option maxHeartbeats 4000000
set_option maxRecDepth 100000

/-- pattern.Compare -/
def cfB (x y : ByteArray) : Int := if ltB x y then -1 else if ltB y x then 1 else 0
theorem lt_cfB (x y : ByteArray) : ltOf cfB x y = ltB x y := by
  unfold ltOf cfB
  cases h : ltB x y <;> cases h2 : ltB y x <;> simp
theorem ltB_beq (x y : ByteArray) : (x.toList == y.toList) = decide (x = y) := by
  rw [ByteArray.toList_eq, ByteArray.toList_eq]
  by_cases h : x = y
  · subst h; simp
  · rw [decide_eq_false h]
    simp only [beq_eq_false_iff_ne, ne_eq]
    exact fun e => h (ByteArray.ext (Array.ext' e))
theorem ltB_nt (x y z : ByteArray) (h : ltB x y = false) (h2 : ltB y z = false) : ltB x z = false := by
  cases h3 : ltB x z with
  | false => rfl
  | true =>
    cases h4 : ltB y x with
    | true => rw [ltB_o.trans _ _ _ h4 h3] at h2; cases h2
    | false => rw [ltB_o.tot _ _ h h4] at h3; rw [h3] at h2; cases h2
theorem swoB : SWO (ltOf cfB) := ⟨fun x => by rw [lt_cfB]; exact ltB_o.irr x, fun x y z => by simp only [lt_cfB]; exact ltB_o.trans x y z, fun x y z => by simp only [lt_cfB]; exact ltB_nt x y z⟩
theorem totB (x y : ByteArray) (h : ltOf cfB x y = false) (h2 : ltOf cfB y x = false) : x = y := by rw [lt_cfB] at *; exact ltB_o.tot x y h h2
theorem gt_eq (x y : ByteArray) : (!(Op.bytesLess x.toList y.toList || x.toList == y.toList)) = ltB y x := by
  rw [ltB_beq]
  show (!(ltB x y || decide (x = y))) = ltB y x
  cases h : ltB x y with
  | true => rw [ltB_o.asym h]; rfl
  | false =>
    by_cases he : x = y
    · subst he; rw [ltB_o.irr]; simp
    · cases h2 : ltB y x with
      | true => simp [he]
      | false => exact absurd (ltB_o.tot _ _ h h2) he
theorem gt_run (x y : ByteArray) (t : TypeId) (W : World) : (binOp .gtr t (.string x) (.string y)).run Try.prog W = .ok (.bool (ltB y x)) W := by
  obtain ⟨v, h1, h2⟩ := strBin_run (P := Try.prog) (gh := ⟨fun _ => 0, fun _ => 0, fun _ => 0, fun _ => 0, fun _ => 0⟩) (nx := 0) (w := W) (op := .gtr) (a := x) (b := y) rfl t
  cases h2
  rw [h1, gt_eq]
theorem cmp_base (x y : ByteArray) (W : World) : Calls Try.prog 48 #[.string x, .string y] W fun e w' => e = .returned (.int .i64 (cfB x y)) ∧ ∃ q, w' = W.drewN q := by
  have e1 : Op.bytesLess x.toList y.toList = ltB x y := rfl
  unfold cfB
  have hg := fun t w => gt_run x y t w
  generalize ltB y x = b2 at hg ⊢
  go_enter Try.func48, Try.ntmps48
  go_wp2
  all_goals (go_ret; exact ⟨rfl, 0, rfl⟩)
theorem putB_is (p : ByteArray) : ∀ l, putB p l = insS ltB p l
  | [] => rfl
  | x :: r => by rw [putB, insS, putB_is p r]; rfl
theorem putB_perm (p : ByteArray) : ∀ l, (putB p l).Perm (p :: l)
  | [] => .refl _
  | x :: r => by
    rw [putB]
    split
    · exact .refl _
    · exact ((putB_perm p r).cons x).trans (.swap _ _ _)
theorem sortB_perm : ∀ l, (sortB l).Perm l
  | [] => .refl _
  | x :: r => (putB_perm x (sortB r)).trans ((sortB_perm r).cons x)
theorem putB_asc (p : ByteArray) : ∀ {l}, Asc ltB l → Asc ltB (putB p l)
  | [], _ => by simp [putB]
  | x :: r, h => by
    have h1 := List.pairwise_cons.1 h
    rw [putB]
    split
    · rename_i hl
      refine List.pairwise_cons.2 ⟨fun z hz => ?_, h⟩
      rcases List.mem_cons.1 hz with e | e
      · subst e; exact ltB_o.asym hl
      · cases hzp : ltB z p with
        | false => rfl
        | true => have := ltB_o.trans _ _ _ hzp hl; rw [h1.1 z e] at this; cases this
    · rename_i hl
      refine List.pairwise_cons.2 ⟨fun z hz => ?_, putB_asc p h1.2⟩
      rcases List.mem_cons.1 ((putB_perm p r).mem_iff.1 hz) with e | e
      · subst e; simpa [ltB] using hl
      · exact h1.1 z e
theorem sortB_asc : ∀ l, Asc ltB (sortB l)
  | [] => by simp [sortB]
  | x :: r => putB_asc x (sortB_asc r)
theorem merge_asc (l : List ByteArray) : Asc ltB (l.mergeSort fun x y => !(ltOf cfB) y x) := by
  have h := List.pairwise_mergeSort (le := fun x y => !(ltOf cfB) y x) (fun a b c h1 h2 => by
    simp only [lt_cfB, Bool.not_eq_true'] at *; exact ltB_nt c b a h2 h1) (fun a b => by
    simp only [lt_cfB]
    cases h : ltB b a with
    | false => rfl
    | true => rw [ltB_o.asym h]; rfl) l
  refine h.imp fun hab => ?_
  simpa [lt_cfB] using hab
theorem sortB_eq (l : List ByteArray) : (l.mergeSort fun x y => !(ltOf cfB) y x) = sortB l :=
  Asc.eq ltB_o (merge_asc l) (sortB_asc l) ((List.mergeSort_perm l _).trans (sortB_perm l).symm)
theorem strsV_is : ∀ {es : List VV} {l : List ByteArray}, strsV es = some l → es = l.map .str
  | [], l, h => by simp [strsV] at h; subst h; rfl
  | e :: es, l, h => by
    cases e <;> simp [strsV] at h
    obtain ⟨a, ha, rfl⟩ := h
    rw [strsV_is ha]; rfl
theorem strsV_of : ∀ (l : List ByteArray), strsV (l.map .str) = some l
  | [] => rfl
  | x :: r => by simp [strsV, strsV_of r]
theorem cell_ofL : Cell1 (fun l => VV.str (ofL l)) encStr := ⟨fun _ => rfl, fun h => by cases h; rfl, fun _ => .str _⟩
theorem there_sort : ∃ fn, Try.prog.funcs[47]? = some fn ∧ fn.body.isSome ∧ (fn.name == "runtime.NumGoroutine") = false := ⟨_, Try.func47, rfl, by kernel_rfl⟩
theorem there_compact : ∃ fn, Try.prog.funcs[49]? = some fn ∧ fn.body.isSome ∧ (fn.name == "runtime.NumGoroutine") = false := ⟨_, Try.func49, rfl, by kernel_rfl⟩
theorem sortX_ok {args : List RV} {rs bs : List RV} (hg : sortX args = some (rs, bs)) (H : Hp) : AnsOk Try.prog mode05 47 args H rs bs H := by
  unfold sortX at hg
  split at hg
  · rename_i es f
    split at hg
    · rename_i hc
      obtain ⟨rfl, hlen⟩ := hc
      split at hg
      · rename_i x r hs
        simp only [Option.some.injEq, Prod.mk.injEq] at hg
        obtain ⟨rfl, rfl⟩ := hg
        have := strsV_is hs
        subst this
        have h := sort_ans (ρ := sortL_ren) sortL cell_str (fun _ => rfl) cfB swoB totB 48 cmp_base (enters_of Try.func48 (by kernel_rfl) rfl)
          there_sort (x :: r) (by simp) (by simpa using hlen) (mode := mode05) (by decide) (by decide) H
        rw [sortB_eq] at h
        exact h
      · cases hg
    · cases hg
  · split at hg
    · simp only [Option.some.injEq, Prod.mk.injEq] at hg
      obtain ⟨rfl, rfl⟩ := hg
      exact sort_ans0 (ρ := sortL_ren) { sortL with } _ there_sort H
    · cases hg
  · cases hg
theorem compX_ok {args : List RV} {rs bs : List RV} (hg : compX args = some (rs, bs)) (H : Hp) : AnsOk Try.prog mode05 49 args H rs bs H := by
  unfold compX at hg
  split at hg
  · rename_i es
    split at hg
    · rename_i hlen
      split at hg
      · rename_i x r hs
        simp only [Option.some.injEq, Prod.mk.injEq] at hg
        obtain ⟨rfl, rfl⟩ := hg
        have := strsV_is hs
        subst this
        have h := compact_ans (ρ := compL_ren) compL cell_ofL there_compact ((x :: r).map ByteArray.toList) (by simp) (by simpa using hlen) (mode := mode05) (by decide) H
        have e : ((x :: r).map ByteArray.toList).map (fun l => VV.str (ofL l)) = (x :: r).map .str := by
          rw [List.map_map]
          exact List.map_congr_left fun a _ => by simp [ofL_to]
        rw [e] at h
        have e2 : (compB (x :: r)).map VV.str = (Lib.compact ((x :: r).map ByteArray.toList)).map fun l => VV.str (ofL l) := by
          unfold compB; rw [List.map_map]; rfl
        rw [e2]
        exact h
      · cases hg
    · cases hg
  · simp only [Option.some.injEq, Prod.mk.injEq] at hg
    obtain ⟨rfl, rfl⟩ := hg
    exact compact_ans0 (ρ := compL_ren) compL there_compact H
  · cases hg
theorem ext_ok : ExtOk Try.prog pol := by
  intro f g args rs bs hf hg H
  have hf' : ext09 f = some g := hf
  unfold ext09 at hf'
  split at hf'
  · rename_i he
    subst he
    simp only [Option.some.injEq] at hf'
    subst hf'
    exact sortX_ok hg H
  · split at hf'
    · rename_i he
      subst he
      simp only [Option.some.injEq] at hf'
      subst hf'
      exact compX_ok hg H
    · cases hf'
/-- the contracts -/
theorem r_Sort (l : List ByteArray) (hne : l ≠ []) (hlen : l.length < 4611686018427387904) (H : Hp) :
    Runs Try.prog pol 47 [.own (l.map .str) 1, .val (.func 48 [] [])] H ([], [.own ((sortB l).map .str) 1], H) := by
  refine ⟨1, ?_⟩
  simp only [callV, pol, ext09, if_true, sortX, List.length_map, strsV_of]
  rw [if_pos ⟨trivial, hlen⟩]
  cases l with
  | nil => exact absurd rfl hne
  | cons x r => rfl
theorem r_Sort0 (H : Hp) : Runs Try.prog pol 47 [.val (.lst []), .val (.func 48 [] [])] H ([], [], H) := ⟨1, rfl⟩
theorem r_Compact (l : List ByteArray) (hne : l ≠ []) (hlen : l.length < 4611686018427387904) (H : Hp) :
    Runs Try.prog pol 49 [.own (l.map .str) 1] H ([.own ((compB l).map .str) 1], [], H) := by
  refine ⟨1, ?_⟩
  have e : ext09 49 = some compX := rfl
  simp only [callV, pol, e, compX, List.length_map, strsV_of]
  rw [if_pos hlen]
  cases l with
  | nil => exact absurd rfl hne
  | cons x r => rfl
theorem r_Compact0 (H : Hp) : Runs Try.prog pol 49 [.full []] H ([.full []], [], H) := ⟨1, rfl⟩
end Go.Vi.CYtnloddhadlpajaa
