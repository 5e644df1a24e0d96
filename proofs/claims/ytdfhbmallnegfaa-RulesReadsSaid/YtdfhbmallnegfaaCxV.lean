/-
  Which variables an expression names: the program.
-/
import Derived.Test.YtdfhbmallnegfaaCxD
import Derived.Test.YtdfhbmallnegfaaV4
namespace Go.Vi.CYtdfhbmallnegfaa
open Go.Vi Go.Proofs Go.Proofs.Ytdfhbmallnegfaa
set_option linter.unusedVariables false
set_option maxHeartbeats 8000000
set_option maxRecDepth 100000
set_option linter.unusedSimpArgs false

section
variable {P : Program} {pol : Pol} {f : FuncId} {ops : Array Oper} {Q : PostV} {K : Fr → Hp → Prop} {n : Nat} {x : Nat → SV} {u : List (Nat × SV)} {y : Nat → TC} {w w' : List (Nat × TC)} {H : Hp} {l : List Oper} {d : Tmp} {ty : TypeId} {pos : String} {after : Array Edge} {g : Option (Nat × Bool)}
variable {c : Call} {fid : FuncId} {v0 v1 : VV} {o g' sz m : Nat} {es es' : List VV}
theorem backs_none {mode : Nat → Nat} {tab : List TC} (hm : ∀ i, mode i ≠ 2) : ∀ {i : Nat} {l : List RV}, backs mode tab i l = some ([], tab) ∧ lentOk mode tab i l = true
  | i, [] => ⟨rfl, rfl⟩
  | i, v :: r => by
    have h1 : ¬ (mode i = 2 ∧ isOwned v = true) := fun h => hm i h.1
    have ih := backs_none (tab := tab) hm (i := i + 1) (l := r)
    exact ⟨by unfold backs; rw [if_neg h1]; exact ih.1, by unfold lentOk; rw [if_neg h1]; exact ih.2⟩
theorem Wl.retG {fn : Func} {args r r0 : List RV} {vs : List SV} (h : r = r0) (hr : ResX P n x u y w fn.results.toList vs := by repeat' (first | exact ResX.nil | apply ResX.tmp | apply ResX.cell | rfl)) (ho : RetX n y w vs r w' := by repeat' (first | exact RetX.nil | apply RetX.val | apply RetX.full | apply RetX.own | rfl | (simp; done) | (simp; omega)))
    (hm : ∀ i, pol.mode f i ≠ 2) (hz : pol.frz f = false := by rfl) : QX (Left P pol f fn args (Ans r0 [] H)) .ret n x u y w H := by
  refine ⟨.inr rfl, r, lay n y w', [], lay n y w', ?_, (backs_none hm).1, (backs_none hm).2, h, rfl, rfl⟩
  unfold resultsV
  rw [hr.told, hz]
  exact ho.told
/-- a row is given away with two values, and a row is the answer -/
theorem Wo.giveRow2 (hR : ∀ H, Runs P pol fid [.own es sz, .val v0, .val v1] H ([.own es' sz], [], H)) (h : ∀ g2, WX P pol f ops l K n x ((d, .own d g2 0 es'.length sz) :: u) y ((d, .row g2 es' sz false) :: (o, .gone g') :: w) H) {fo : Operand} (hcal : c.callee = .value fo := by rfl) (hf : evX n x u fo = some (.val (.func fid [] [])) := by rfl)
    (ha : (c.args.toList.map (evX n x u)).mapM id = some [.own o g' 0 m sz, .val v0, .val v1] := by rfl) (hb : tgX n y w o = .row g' es sz false := by rfl) (hm : m = es.length := by first | rfl | (simp; done) | (simp; omega))
    (hm0 : pol.mode fid 0 = 1 := by rfl) (hm1 : pol.mode fid 1 = 0 := by rfl) (hm2 : pol.mode fid 2 = 0 := by rfl) (hd : Nat.blt d n = true := by rfl) (hp : pol.pure fid = true := by rfl) (hw : openX ops g n x u = true := by rfl) : WX P pol f ops (⟨some d, .call c, ty, pos, after, g⟩ :: l) K n x u y w H := by
  obtain ⟨kk, hk⟩ := hR (Hp.bare H.next)
  subst hm
  have hd' := blt_lt hd
  have ho : outArgs (pol.mode fid) (lay n y w) 0 [.own o g' 0 es.length sz, .val v0, .val v1] = some ([.own es sz, .val v0, .val v1], lay n y ((o, .gone g') :: w), []) := by
    have h2 : outArg 1 (lay n y w) (.own o g' 0 es.length sz) = some (.own es sz, lay n y ((o, .gone g') :: w), []) := by
      simp only [outArg, tget_mk, hb, Nat.zero_add, Nat.le_refl, and_self, if_true, List.drop_zero, List.take_length, mk_set]
    have h0 : outT (lay n y ((o, .gone g') :: w)) (.val v0) = some (v0, lay n y ((o, .gone g') :: w)) := rfl
    have h1 : outT (lay n y ((o, .gone g') :: w)) (.val v1) = some (v1, lay n y ((o, .gone g') :: w)) := rfl
    simp only [outArgs, hm0, hm1, hm2, h2, outArg_zero, h0, h1, Option.map_some, List.append_nil]
  exact WX.called ⟨kk, fun call e => by
    subst e
    exact stepV_call (dst := some d) (first := []) (cap := []) (back := []) (by simpa using hk) hcal hf ha ho rfl hp (by
      simp only [keepsAll, List.length_nil, hm0, isOwnS, beq_self_eq_true, Bool.and_self, Bool.not_true, Bool.false_and, Bool.and_false, Bool.false_eq_true, if_false]; rfl) (by
      simp only [ofRV, ofRVs, ofRV1, ofCell, Option.toList_some, List.cons_append, mk_length, hd', if_true, mk_set])⟩ hw (h ((tget (lay n y ((o, .gone g') :: w)) d).gen + 1))
end

theorem lay_tell {α : Type} {n : Nat} {x : Nat → α} {u : List (Nat × α)} (j : Nat) (h : look u j = none) : lay n x ((j, x j) :: u) = lay n x u := by
  apply List.ext_getElem?
  intro i
  rw [mk_get, mk_get]
  simp only [look]
  cases hb : Nat.beq j i with
  | false => rw [cond_false]
  | true =>
    have := Nat.eq_of_beq_eq_true hb
    subst this
    rw [h, cond_true]; rfl
/-- a row of the table that was not written yet is told -/
theorem Wx.tellT {P : Program} {pol : Pol} {f : FuncId} {c : Code} {Q : PostV} {n : Nat} {x : Nat → SV} {u : List (Nat × SV)} {y : Nat → TC} {w : List (Nat × TC)} {H : Hp} (j : Nat) (t : TC) (h : EX P pol f c Q n x u y ((j, t) :: w) H) (hj : look w j = none := by rfl) (ht : y j = t := by rfl) : EX P pol f c Q n x u y w H := by
  subst ht
  have := h.h
  rw [lay_tell j hj] at this
  exact ⟨this⟩

def putL (es : List Bool) (n : Nat) : List Bool := (es ++ List.replicate (n + 1 - es.length) false).set n true
def putU (s : Sl Bool) (n most : Int) : Sl Bool := if n < 0 ∨ most ≤ n then s else some (putL s.list n.toNat)
theorem mode_put : ∀ i, pol.mode 55 i ≠ 2 := fun i => by
  show (if 55 = 55 then (if i = 0 then 1 else 0) else 0) ≠ 2
  rw [if_pos rfl]; split <;> decide
theorem pad_step {es L : List Bool} (h : L = es ++ List.replicate (L.length - es.length) false) (hl : es.length ≤ L.length) : L ++ [false] = es ++ List.replicate (L.length + 1 - es.length) false := by
  rw [show L.length + 1 - es.length = (L.length - es.length) + 1 by omega, List.replicate_succ', ← List.append_assoc, ← h]

theorem pad_end {es L : List Bool} {n : Nat} (h2 : L = es ++ List.replicate (L.length - es.length) false) (h3 : L.length ≤ n + 1 ∨ L.length = es.length) (h : n < L.length) : L = es ++ List.replicate (n + 1 - es.length) false := by
  rw [show n + 1 - es.length = L.length - es.length by omega]; exact h2
theorem pad_G {es L : List Bool} {n : Nat} (h1 : es.length ≤ L.length) (h4 : L.length ≤ es.length + n + 1) (h2 : L = es ++ List.replicate (L.length - es.length) false) (h : L.length ≤ n) :
    (es.length ≤ (L.take L.length ++ [false]).length ∧ (L.take L.length ++ [false]).length ≤ es.length + n + 1 ∧ L.length + 1 = (L.take L.length ++ [false]).length) ∧ L.take L.length ++ [false] = es ++ List.replicate ((L.take L.length ++ [false]).length - es.length) false ∧ ((L.take L.length ++ [false]).length ≤ n + 1 ∨ (L.take L.length ++ [false]).length = es.length) := by
  rw [List.take_length]
  have hl : (L ++ [false]).length = L.length + 1 := by simp
  rw [hl]
  exact ⟨⟨by omega, by omega, rfl⟩, pad_step h2 h1, .inl (by omega)⟩

theorem r_put1 (es : List Bool) (n most : Int) (hn : w64 n) (hes : es.length ≤ 6) (hm : most ≤ 6) (H : Hp) : Runs Try.prog pol 55 [.own (es.map VV.bool) 1, .val (iv n), .val (iv most)] H ([.own ((if n < 0 ∨ most ≤ n then es else putL es n.toNat).map VV.bool) 1], [], H) := by
  unfold w64 at hn
  refine Runs.told (fn := Try.f55) (n := 26) [(0, .own 0 1 0 (es.map VV.bool).length 1), (1, .val (iv n)), (2, .val (iv most))] [(0, .row 1 (es.map VV.bool) 1 false), (1, .gone 0), (2, .gone 0)] rfl Try.func55 rfl rfl (by kernel_rfl) rfl (by repeat' constructor) (by repeat' constructor) ?_
  by_cases h : n < 0 ∨ most ≤ n
  · rw [if_pos h]
    repeat' (first
      | intro _
      | refine Ws ?_
      | (refine Wt ?_ ?_ <;> intro _ <;> try (exfalso; omega))
      | (refine Wu ?_ ?_ <;> intro _)
      | refine Wv ?_
      | refine Wz ?_
      | fail)
    all_goals first
      | (exfalso; omega)
      | exact Wl.retG rfl (hm := mode_put)
  · rw [if_neg h]
    refine Wx.tellT 21 (.gone 0) ?_
    repeat' (first
      | intro _
      | refine Ws ?_
      | (refine Wt ?_ ?_ <;> intro _ <;> try (exfalso; omega))
      | (refine Wu ?_ ?_ <;> intro _)
      | refine Wv ?_
      | refine Wz ?_
      | fail)
    refine Wx.loop [1, 6, 22, 23, 24, 25] [1, 2] (fun (e, g, L, m, g0) => [(0, bif e then .own 0 g 0 m 1 else .own 21 g 0 m 1)]) (fun (e, g, L, m, g0) => [(0, bif e then .row g (L.map VV.bool) 1 false else .gone g0), (21, bif e then .gone g0 else .row g (L.map VV.bool) 1 false)]) (fun (e, g, L, m, g0) => (es.length ≤ L.length ∧ L.length ≤ es.length + n.toNat + 1 ∧ m = L.length) ∧ L = es ++ List.replicate (L.length - es.length) false ∧ (L.length ≤ n.toNat + 1 ∨ L.length = es.length)) (fun (e, g, L, m, g0) => es.length + n.toNat + 1 - L.length) (true, 1, es, (es.map VV.bool).length, 0) ⟨⟨Nat.le_refl _, by omega, List.length_map _⟩, by simp, .inr rfl⟩ (fun a x y hG => ?_)
    obtain ⟨e, g, L, m, g0⟩ := a
    obtain ⟨h1, h2, h3⟩ := hG
    dsimp only [List.cons_append, List.nil_append]
    obtain ⟨h1, h4, rfl⟩ := h1
    cases e <;> dsimp only [cond]
    · repeat' (first
        | intro _
        | refine Ws ?_
        | (refine Wt ?_ ?_ <;> intro _ <;> try (exfalso; omega))
        | (refine Wu ?_ ?_ <;> intro _)
        | refine Wo.app1 (enc := VV.bool) (fun _ => ?_)
        | refine Wv ?_
        | refine Wz ?_
        | fail)
      · exact Rd (false, _, L.take L.length ++ [false], L.length + 1, g0) (by dsimp only; simp; omega) (pad_G h1 h4 h2 (by omega))
      · refine Wl.retG ?_ (hm := mode_put)
        rw [Nat.zero_add, putL, ← pad_end h2 h3 (by omega)]
    · repeat' (first
        | intro _
        | refine Ws ?_
        | (refine Wt ?_ ?_ <;> intro _ <;> try (exfalso; omega))
        | (refine Wu ?_ ?_ <;> intro _)
        | refine Wo.app1 (enc := VV.bool) (fun _ => ?_)
        | refine Wv ?_
        | refine Wz ?_
        | fail)
      · exact Rd (false, _, L.take L.length ++ [false], L.length + 1, g) (by dsimp only; simp; omega) (pad_G h1 h4 h2 (by omega))
      · refine Wl.retG ?_ (hm := mode_put)
        rw [Nat.zero_add, putL, ← pad_end h2 h3 (by omega)]
theorem r_put0 (n most : Int) (hn : w64 n) (hm : most ≤ 6) (h : ¬ (n < 0 ∨ most ≤ n)) (H : Hp) : Runs Try.prog pol 55 [.val .nils, .val (iv n), .val (iv most)] H ([.own ((putL [] n.toNat).map VV.bool) 1], [], H) := by
  unfold w64 at hn
  refine Runs.told (fn := Try.f55) (n := 26) [(0, .val .nils), (1, .val (iv n)), (2, .val (iv most))] [(0, .gone 0), (1, .gone 0), (2, .gone 0)] rfl Try.func55 rfl rfl (by kernel_rfl) rfl (by repeat' constructor) (by repeat' constructor) ?_
  refine Wx.tellT 21 (.gone 0) ?_
  repeat' (first
    | intro _
    | refine Ws ?_
    | (refine Wt ?_ ?_ <;> intro _ <;> try (exfalso; omega))
    | (refine Wu ?_ ?_ <;> intro _)
    | refine Wv ?_
    | refine Wz ?_
    | fail)
  refine Wx.loop [1, 6, 22, 23, 24, 25] [0, 1, 2] (fun (e, g, L, m) => [(0, bif e then .val .nils else .own 21 g 0 m 1)]) (fun (e, g, L, m) => [(21, bif e then .gone g else .row g (L.map VV.bool) 1 false)]) (fun (e, g, L, m) => (([] : List Bool).length ≤ L.length ∧ L.length ≤ ([] : List Bool).length + n.toNat + 1 ∧ m = L.length) ∧ L = [] ++ List.replicate (L.length - ([] : List Bool).length) false ∧ (L.length ≤ n.toNat + 1 ∨ L.length = ([] : List Bool).length) ∧ (e = true → L = [])) (fun (e, g, L, m) => n.toNat + 1 - L.length) (true, 0, ([] : List Bool), 0) ⟨⟨Nat.le_refl _, Nat.zero_le _, rfl⟩, rfl, .inl (Nat.zero_le _), fun _ => rfl⟩ (fun a x y hG => ?_)
  obtain ⟨e, g, L, m⟩ := a
  obtain ⟨h1, h2, h3, h5⟩ := hG
  dsimp only [List.cons_append, List.nil_append]
  obtain ⟨h1, h4, rfl⟩ := h1
  cases e <;> dsimp only [cond]
  · repeat' (first
      | intro _
      | refine Ws ?_
      | (refine Wt ?_ ?_ <;> intro _ <;> try (exfalso; omega))
      | (refine Wu ?_ ?_ <;> intro _)
      | refine Wo.app1 (enc := VV.bool) (fun _ => ?_)
      | refine Wv ?_
      | refine Wz ?_
      | fail)
    · exact Rd (false, _, L.take L.length ++ [false], L.length + 1) (by dsimp only; simp; omega) ⟨(pad_G h1 h4 h2 (by omega)).1, (pad_G h1 h4 h2 (by omega)).2.1, (pad_G h1 h4 h2 (by omega)).2.2, fun h => by cases h⟩
    · refine Wl.retG ?_ (hm := mode_put)
      rw [Nat.zero_add, putL, ← pad_end h2 h3 (by omega)]
  · have hL := h5 rfl
    subst hL
    repeat' (first
      | intro _
      | refine Ws ?_
      | (refine Wt ?_ ?_ <;> intro _ <;> try (exfalso; omega))
      | (refine Wu ?_ ?_ <;> intro _)
      | refine Wo.app1n (enc := VV.bool) (fun _ => rfl) (fun _ => ?_)
      | refine Wv ?_
      | refine Wz ?_
      | fail)
    · exact Rd (false, _, [false], 1) (by show n.toNat + 1 - 1 < n.toNat + 1 - 0; omega) ⟨⟨Nat.zero_le 1, by show 1 ≤ 0 + n.toNat + 1; omega, rfl⟩, rfl, .inl (by show 1 ≤ n.toNat + 1; omega), fun h => by cases h⟩
    all_goals first
      | (exfalso; simp at *; omega)
      | trace_state
theorem r_put0o (n most : Int) (h : n < 0 ∨ most ≤ n) (H : Hp) : Runs Try.prog pol 55 [.val .nils, .val (iv n), .val (iv most)] H ([.val .nils], [], H) := by
  refine Runs.told (fn := Try.f55) (n := 26) [(0, .val .nils), (1, .val (iv n)), (2, .val (iv most))] [(0, .gone 0), (1, .gone 0), (2, .gone 0)] rfl Try.func55 rfl rfl (by kernel_rfl) rfl (by repeat' constructor) (by repeat' constructor) ?_
  repeat' (first
    | intro _
    | refine Ws ?_
    | (refine Wt ?_ ?_ <;> intro _ <;> try (exfalso; omega))
    | (refine Wu ?_ ?_ <;> intro _)
    | refine Wv ?_
    | refine Wz ?_
    | fail)
  all_goals first
    | rfl
    | (exfalso; omega)
end Go.Vi.CYtdfhbmallnegfaa
