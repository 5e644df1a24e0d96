/-
  filter.Union.
-/
import Derived.Test.YtnloddhadlpajaaCpY
namespace Go.Vi
section
variable {P : Program} {pol : Pol} {f : FuncId} {ops : Array Oper} {K : Fr → Hp → Prop} {n : Nat} {x : Nat → SV} {u : List (Nat × SV)} {y : Nat → TC} {w : List (Nat × TC)} {H : Hp} {l : List Oper} {d : Tmp} {ty : TypeId} {pos : String} {after : Array Edge} {g : Option (Nat × Bool)}
variable {t e : TypeId} {p q : Operand} {sz : Nat}
/-- a whole slice of a kind, to a slice that has none -/
theorem Wo.appN {α : Type} {enc : α → VV} {s : Sl α} {c : Call} {ti : TypeInfo} (h : ∀ g2, s.list ≠ [] → WX P pol f ops l K n x ((d, .own d g2 0 s.list.length sz) :: u) y ((d, .row g2 (s.list.map enc) sz false) :: w) H) (h' : s.list = [] → WX P pol f ops l K n x ((d, .val .nils) :: u) y w H)
    (hc : c.callee = .builtin .append := by rfl) (ha : c.args.toList = [p, q] := by rfl) (hct : c.argTypes.toList = [t, t] := by rfl) (hx : evX n x u p = some (.val .nils) := by rfl)
    (hy : evX n x u q = some (.val (slV enc s)) := by rfl) (he : elemOfSlice P t = some e := by rfl) (hs : sizeT P e = some sz := by rfl) (hi' : P.info? e = some ti := by rfl) (hzz : zeroOk P e sz = true := by rfl)
    (hk : (Nat.blt d n && Nat.blt 0 sz && Nat.ble ti.bytes 65536) = true := by rfl) (hnew : ∀ a, okElem sz (enc a) = true := by intro _; rfl) (hr : s.list.length ≤ 1073741824 := by omega) (hw : openX ops g n x u = true := by rfl) :
    WX P pol f ops (⟨some d, .call c, ty, pos, after, g⟩ :: l) K n x u y w H := by
  obtain ⟨ce, ar, at'⟩ := c
  simp only at hc ha hct
  subst hc
  simp only [Bool.and_eq_true] at hk
  obtain ⟨⟨c1, c3⟩, c4⟩ := hk
  have c1 := blt_lt c1; have c3 := blt_lt c3; have c4 := Nat.le_of_ble_eq_true c4
  have hrr : roomOk s.list.length ti.bytes = true := by
    have h2 : s.list.length * ti.bytes ≤ 1073741824 * 65536 := Nat.mul_le_mul hr c4
    simp only [roomOk, Bool.and_eq_true, decide_eq_true_eq]; omega
  have hn : (s.list.map enc).all (okElem sz) = true := by simp [hnew]
  by_cases hne : s.list = []
  · exact WX.told (fun call => by simp only [stepV, ha, hct, if_true, appendV, hx, hy, he, hs, hi', added_sl, mk_length, c1, c3, hzz, and_self, hne, List.map_nil, List.all_nil, List.isEmpty_nil]) (h' hne) hw
  · have : (s.list.map enc).isEmpty = false := by
      cases hl : s.list with
      | nil => exact absurd hl hne
      | cons _ _ => rfl
    exact WX.told (fun call => by simp only [stepV, ha, hct, if_true, appendV, hx, hy, he, hs, hi', added_sl, mk_length, c1, c3, hn, hzz, and_self, this, Bool.false_eq_true, if_false, List.length_map, hrr, if_true, mk_set]) (h ((tget (lay n y w) d).gen + 1) hne) hw
end
end Go.Vi
namespace Go.Vi.CYtnloddhadlpajaa
open Go.Vi Go.Proofs Go.Proofs.Ytnloddhadlpajaa
set_option linter.unusedVariables false
set_option maxHeartbeats 4000000
set_option maxRecDepth 100000
set_option linter.unusedSimpArgs false

theorem cells_sS {s : Sl ByteArray} : (slV VV.str s).cells = [slV VV.str s] := by cases s <;> rfl
theorem ld_sS (s : Sl ByteArray) : ldV Try.prog 22 (slV VV.str s).cells 0 = some (slV VV.str s) := by rw [cells_sS]; rfl
theorem len_sS (s : Sl ByteArray) : (slV VV.str s).cells.length = 1 := by rw [cells_sS]; rfl
def uniE : List (Sl ByteArray) → Int
  | [] => 0
  | x :: r => if (chkR x.list).2 = 0 then uniE r else (chkR x.list).2
def uniL (ls : List (Sl ByteArray)) : List ByteArray := ls.flatMap Sl.list
def uniR (ls : List (Sl ByteArray)) : Sl ByteArray × Int := if uniE ls = 0 then (if 8 < (lst (uniL ls)).length then (none, 4) else (slO (lst (uniL ls)), 0)) else (none, uniE ls)
theorem right_chk {l : List ByteArray} (h : (chkR l).2 = 0) : rightF l = true := by unfold rightF; simp [h]
theorem r_Union (ls : List (Sl ByteArray)) (h3 : ls.length = 3) (hl : ∀ z ∈ ls, Sl.ok z) (H : Hp) : Runs Try.prog pol 22 [.val (slV (slV VV.str) (some ls))] H ([.val (slV VV.str (uniR ls).1), .val (iv (uniR ls).2)], [], H) := by
  obtain ⟨S, hS⟩ : ∃ S : Sl (Sl ByteArray), S = some ls := ⟨_, rfl⟩
  rw [← hS]
  have hSl : S.list = ls := by rw [hS]; rfl
  have hS3 : S.list.length = 3 := by rw [hSl]; exact h3
  refine Runs.told (fn := Try.f22) (n := 34) [(0, .val (slV (slV VV.str) S))] [(0, .gone 0)] rfl Try.func22 rfl rfl (by kernel_rfl) rfl (by repeat' constructor) (by repeat' constructor) ?_
  repeat' (first
    | intro _
    | refine Ws ?_
    | (refine Wt ?_ ?_ <;> intro _ <;> try (exfalso; omega))
    | (refine Wu ?_ ?_ <;> intro _)
    | refine Wv ?_
    | refine Wz ?_
    | fail)
  refine Wx.loop [9, 10, 11, 28, 29, 30, 31, 32, 33] [29] (fun (k, e, g, r, m) => [(12, .val (iv (k : Nat))), (4, bif e then .val .nils else .own 26 g 0 m 1)]) (fun (k, e, g, r, m) => [(0, .gone 0), ((bif e then 0 else 26), bif e then .gone 0 else .row g (r.map VV.str) 1 false)]) (fun (k, e, g, r, m) => (k ≤ S.list.length ∧ m = r.length ∧ m ≤ 8 * k ∧ ∀ p ∈ r, patternB p = true) ∧ uniE (S.list.drop k) = uniE S.list ∧ r = uniL (S.list.take k) ∧ (e = true → r = []) ∧ (e = false → r ≠ [])) (fun (k, e, g, r, m) => S.list.length - k) (0, true, 0, ([] : List ByteArray), 0) ⟨⟨Nat.zero_le _, rfl, Nat.zero_le _, fun _ h => (by cases h)⟩, rfl, rfl, fun _ => rfl, fun h => (by cases h)⟩ (fun a x y hG => ?_)
  obtain ⟨k, e, g, r, m⟩ := a
  obtain ⟨g1, g2, g3, g4, g5⟩ := hG
  dsimp only [List.cons_append, List.nil_append]
  obtain ⟨hk0, hm, hmk, hpp⟩ := g1
  subst hm
  have e1 : List.take r.length r = r := List.take_length
  rcases Nat.lt_or_ge k S.list.length with hk | hk
  · obtain ⟨z, hz⟩ := at_some hk
    have hzo := hl z (by rw [← hSl]; exact List.mem_of_getElem? hz)
    have h1 := r_Check z hzo
    rw [drop_at hz, uniE] at g2
    have hr1 : uniL (S.list.take (k + 1)) = r ++ z.list := by
      rw [List.take_add_one, hz, g3]; simp [uniL]
    by_cases hc : (chkR z.list).2 = 0
    · rw [if_pos hc] at g2
      have hzr := right_iff.1 (right_chk hc)
      rw [hc] at h1
      generalize (chkR z.list).1 = c1 at h1
      cases e
      · repeat' (first
          | intro _
          | refine Ws ?_
          | (refine Wt ?_ ?_ <;> intro _ <;> try (exfalso; omega))
          | (refine Wu ?_ ?_ <;> intro _)
          | refine Wo.call0 (h1) ?_
          | refine Wo.idxA ?_ (hc := len_sS)
          | refine Wo.loadE ?_ (hv := ld_sS _)
          | refine Wo.appS (enc := VV.str) (fun _ => ?_)
          | refine Wv ?_
          | refine Wz ?_
          | fail)
        rw [e1]
        exact Rd (k + 1, false, _, r ++ z.list, r.length + z.list.length) (by dsimp only; omega) ⟨⟨by dsimp only; omega, by simp, by dsimp only; omega, fun p hp => (by
          rcases List.mem_append.1 hp with hp | hp
          · exact hpp p hp
          · exact hzr.2 p hp)⟩, g2, hr1.symm, (fun h => (by cases h)), (fun _ => (by simp [g5 rfl]))⟩
      · have hr0 := g4 rfl
        subst hr0
        repeat' (first
          | intro _
          | refine Ws ?_
          | (refine Wt ?_ ?_ <;> intro _ <;> try (exfalso; omega))
          | (refine Wu ?_ ?_ <;> intro _)
          | refine Wo.call0 (h1) ?_
          | refine Wo.idxA ?_ (hc := len_sS)
          | refine Wo.loadE ?_ (hv := ld_sS _)
          | refine Wo.appN (enc := VV.str) (sz := 1) (fun _ _ => ?_) (fun _ => ?_)
          | refine Wv ?_
          | refine Wz ?_
          | fail)
        · rename_i hzn
          exact Rd (k + 1, false, _, z.list, z.list.length) (by dsimp only; omega) ⟨⟨by dsimp only; omega, rfl, by dsimp only; omega, fun p hp => hzr.2 p hp⟩, g2, hr1.symm, (fun h => (by cases h)), (fun _ => hzn)⟩
        · rename_i hzn
          exact Rd (k + 1, true, g, [], 0) (by dsimp only; omega) ⟨⟨by dsimp only; omega, rfl, by dsimp only; omega, hpp⟩, g2, (by dsimp only; rw [hr1, hzn]; rfl), (fun _ => rfl), (fun h => (by cases h))⟩
    · rw [if_neg hc] at g2
      generalize (chkR z.list).1 = c1 at h1
      generalize (chkR z.list).2 = c2 at h1 g2 hc
      have hu : uniR ls = (none, c2) := by
        unfold uniR
        rw [← hSl, ← g2, if_neg hc]
      rw [hu]
      repeat' (first
        | intro _
        | refine Ws ?_
        | (refine Wt ?_ ?_ <;> intro _ <;> try (exfalso; omega))
        | (refine Wu ?_ ?_ <;> intro _)
        | refine Wo.call0 (h1) ?_
        | refine Wo.idxA ?_ (hc := len_sS)
        | refine Wo.loadE ?_ (hv := ld_sS _)
        | refine Wv ?_
        | refine Wz ?_
        | fail)
      all_goals first
        | rfl
        | trace_state
  · rw [List.take_of_length_le hk, hSl] at g3
    rw [List.drop_eq_nil_of_le hk, hSl] at g2
    have hE : uniE ls = 0 := g2.symm
    have hu : uniR ls = if 8 < (lst r).length then (none, 4) else (slO (lst r), 0) := by
      unfold uniR
      rw [if_pos hE, ← g3]
    rw [hu]
    have hsl := slO_list (lst r)
    cases e
    · have h2 := r_least (some r) (by show r.length ≤ 1000; omega)
      rw [show leastF ltB (needF (Sl.list (some r))) (Sl.list (some r)) [] = lst r from rfl] at h2
      have hne := lst_ne hpp (g5 rfl)
      obtain ⟨a, n', hn'⟩ : ∃ a n', slO (lst r) = some (a :: n') := by
        rw [slO_ne hne]
        cases hx : lst r with
        | nil => exact absurd hx hne
        | cons a n' => exact ⟨a, n', rfl⟩
      have hll : (a :: n').length = (lst r).length := by rw [← hsl, hn']; rfl
      rw [hn'] at h2
      rw [hn', ← hll]
      repeat' (first
        | intro _
        | refine Ws ?_
        | (refine Wt ?_ ?_ <;> intro _ <;> try (exfalso; omega))
        | (refine Wu ?_ ?_ <;> intro _)
        | refine Wo.callGL h2 ?_
        | refine Wv ?_
        | refine Wz ?_
        | fail)
      · rename_i h8
        rw [if_pos (show 8 < (a :: n').length by have h9 : ((a :: n').length : Int) > 8 := h8; omega)]; rfl
      · rename_i h8
        rw [if_neg (show ¬ 8 < (a :: n').length by have h9 : ¬ ((a :: n').length : Int) > 8 := h8; omega)]
    · have hr0 := g4 rfl
      subst hr0
      have h2 := r_least none (by show 0 ≤ 1000; omega)
      repeat' (first
        | intro _
        | refine Ws ?_
        | (refine Wt ?_ ?_ <;> intro _ <;> try (exfalso; omega))
        | (refine Wu ?_ ?_ <;> intro _)
        | refine Wo.call0 (h2) ?_
        | refine Wv ?_
        | refine Wz ?_
        | fail)
      all_goals first
        | rfl
        | (exfalso; rename_i h8; revert h8; decide)
        | trace_state
end Go.Vi.CYtnloddhadlpajaa
