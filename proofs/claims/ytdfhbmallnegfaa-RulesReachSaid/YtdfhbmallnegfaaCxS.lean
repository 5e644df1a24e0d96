/-
  Which rules can never be done: the program.
-/
import Derived.Test.YtdfhbmallnegfaaCxH
namespace Go.Vi.CYtdfhbmallnegfaa
open Go.Vi Go.Proofs Go.Proofs.Ytdfhbmallnegfaa
set_option linter.unusedVariables false
set_option maxHeartbeats 8000000
set_option maxRecDepth 100000
set_option linter.unusedSimpArgs false

theorem reach_lenD {t : Tb} : (reach' t).length = t.states.list.length := by unfold reach'; simp
/-- up to state s: one that can be reached, and for which the n-th rule is -/
noncomputable def anyTo (t : Tb) (n s : Nat) : Bool := (List.range s).any fun a => (reach' t).getD a false && for' t n a
theorem anyTo_succ {t : Tb} {n s : Nat} {o : Bool} (h : (reach' t)[s]? = some o) : anyTo t n (s + 1) = or (anyTo t n s) (o && for' t n s) := by
  unfold anyTo
  rw [List.range_succ, List.any_append]
  simp only [List.any_cons, List.any_nil, Bool.or_false, List.getD_eq_getElem?_getD, h, Option.getD_some]
noncomputable def deadB (t : Tb) (n : Nat) : Bool := !anyTo t n t.states.list.length
noncomputable def deadL (t : Tb) (k : Nat) : List Int := ((List.range k).filter (deadB t)).map fun n : Nat => (n : Int)
theorem deadL_succ {t : Tb} {k : Nat} : deadL t (k + 1) = deadL t k ++ (if deadB t k then [(k : Int)] else []) := by
  unfold deadL
  rw [List.range_succ, List.filter_append, List.map_append]
  congr 1
  cases h : deadB t k <;> simp [h]
noncomputable def deadR (t : Tb) : RV := match deadL t t.rules.list.length with
  | [] => .val .nils
  | D => .own (D.map iv) 1
theorem deadR_nil {t : Tb} (h : deadL t t.rules.list.length = []) : deadR t = .val .nils := by unfold deadR; rw [h]
theorem deadR_own {t : Tb} (h : deadL t t.rules.list.length ≠ []) : deadR t = .own ((deadL t t.rules.list.length).map iv) 1 := by
  unfold deadR
  cases hd : deadL t t.rules.list.length with
  | nil => exact absurd hd h
  | cons a l => rfl
theorem deadL_len {t : Tb} {k : Nat} : (deadL t k).length ≤ k := by
  unfold deadL
  rw [List.length_map]
  exact Nat.le_trans (List.length_filter_le _ _) (by simp)

theorem r_Dead (t : Tb) (ht : t.ok) (hR : right' t = true) (H : Hp) : Runs Try.prog pol 17 [.val (tbV t)] H ([deadR t], [], H) := by
  have hst := right_states hR
  have hlen : ((reach' t).map VV.bool).length = t.states.list.length := by rw [List.length_map, reach_lenD]
  refine Runs.told (fn := Try.f17) (n := 42) [(0, .val (tbV t))] [(0, .gone 0)] rfl Try.func17 rfl rfl (by kernel_rfl) rfl (by repeat' constructor) (by repeat' constructor) ?_
  repeat' (first
    | refine Wo.move ?_
    | refine Wo.assign ?_
    | refine Wo.nil ?_
    | refine Wo.nilD ?_
    | (guard_target =~ WX _ _ _ _ _ _ _ _ _ _ _ _
       first
        | refine Wo.lss (fun _ => ?_) (fun _ => ?_) <;> try (exfalso; omega)
        | refine Wo.leq (fun _ => ?_) (fun _ => ?_) <;> try (exfalso; omega)
        | refine Wo.gtr (fun _ => ?_) (fun _ => ?_) <;> try (exfalso; omega)
        | refine Wo.geq (fun _ => ?_) (fun _ => ?_) <;> try (exfalso; omega)
        | refine Wo.eql (fun _ => ?_) (fun _ => ?_) <;> try (exfalso; omega)
        | refine Wo.neq (fun _ => ?_) (fun _ => ?_) <;> try (exfalso; omega)
        | refine Wo.seq (fun _ => ?_) (fun _ => ?_)
        | refine Wo.sne (fun _ => ?_) (fun _ => ?_)
        | refine Wo.eqS (fun _ => ?_) (fun _ => ?_)
        | refine Wo.neS (fun _ => ?_) (fun _ => ?_)
        | refine Wo.add ?_
        | refine Wo.sub ?_
        | refine Wo.loadW ?_
        | refine Wo.loadSt ?_
        | refine Wo.load ?_
        | refine Wo.storeW ?_
        | refine Wo.store ?_
        | refine Wo.alloc (fun _ => ?_)
        | refine Wo.box (fun _ => ?_)
        | refine Wo.idxA ?_
        | refine Wo.idx (fun _ _ => ?_)
        | refine Wo.cutHi (fun _ _ => ?_)
        | refine Wo.cutLo (fun _ _ => ?_)
        | refine Wo.cutBoth (fun _ _ => ?_)
        | refine Wo.byteA ?_
        | refine Wo.byte (fun _ _ => ?_)
        | refine Wo.loadEw ?_
        | refine Wo.loadE ?_
        | refine Wo.loadL ?_
        | refine Wo.build ?_
        | refine Wo.clos ?_
        | refine Wo.idxO ?_
        | refine Wo.loadMA ?_
        | refine Wo.loadR ?_
        | refine Wo.loadM (fun _ _ => ?_)
        | refine Wo.row (sz := 1) (fun _ => ?_)
        | refine Wo.row (sz := 2) (fun _ => ?_)
        | refine Wo.row (sz := 4) (fun _ => ?_)
        | refine Wo.row (sz := 5) (fun _ => ?_)
        | refine Wo.makeB (fun _ => ?_)
        | refine Wo.makeI (fun _ => ?_)
        | refine Wo.cutO ?_
        | refine Wo.app1 (fun _ => ?_)
        | refine Wo.storeM ?_
        | refine Wo.row0 ?_
        | refine Wo.callO (r_Reach t ht hR) (fun _ => ?_)
        | refine Wo.len ?_
        | refine Wo.pure ?_
        | refine Wo.shut ?_
        | refine Wo.shut' ?_
        | fail)
    | refine Wx.seq ?_
    | refine Wx.plain ?_
    | (guard_target =~ QX _ _ _ _ _ _ _ _
       first
        | refine Wq.normal ?_
        | refine Wq.exit ?_
        | refine Wq.ret ?_
        | refine Wb.normal ?_
        | refine Wb.hit ?_
        | refine Wb.miss ?_
        | refine Wb.ret ?_
        | refine Wl.ret ?_
        | refine Wl.normal ?_
        | fail)
    | refine Wx.yes ?_
    | refine Wx.no ?_
    | refine Wx.block ?_
    | refine Wx.exit ?_
    | refine Wx.ret ?_
    | refine Wx.skip ?_
    | refine Wx.scope ?_
    | refine Wx.still ?_
    | refine Wx.dyn ?_
    | fail)
  rename_i g1 gR
  refine Wx.loop [1, 2, 3, 13, 41] [1, 10] (fun (k, e, g, D, m) => [(14, .val (iv (k : Nat))), (4, bif e then .val .nils else .own 39 g 0 m 1)]) (fun (k, e, g, D, m) => [((bif e then 0 else 39), bif e then .gone 0 else .row g (D.map iv) 1 false)]) (fun (k, e, g, D, m) => (k ≤ t.rules.list.length ∧ m = D.length) ∧ D = deadL t k ∧ (e = true → D = []) ∧ (e = false → D ≠ [])) (fun (k, e, g, D, m) => t.rules.list.length - k) (0, true, 0, [], 0) ⟨⟨Nat.zero_le _, rfl⟩, rfl, fun _ => rfl, fun h => by cases h⟩ (fun a x y hG => ?_)
  obtain ⟨k, e, g, D, m⟩ := a
  obtain ⟨h1', h2, h3, h4⟩ := hG
  dsimp only [List.cons_append, List.nil_append]
  obtain ⟨h1, hm⟩ := h1'
  have hDl : D.length ≤ k := by rw [h2]; exact deadL_len
  rcases Nat.lt_or_ge k t.rules.list.length with hk | hk
  · cases e <;> dsimp only [cond]
    · repeat' (first
        | refine Wo.move ?_
        | refine Wo.assign ?_
        | refine Wo.nil ?_
        | refine Wo.nilD ?_
        | (guard_target =~ WX _ _ _ _ _ _ _ _ _ _ _ _
           first
            | refine Wo.lss (fun _ => ?_) (fun _ => ?_) <;> try (exfalso; omega)
            | refine Wo.leq (fun _ => ?_) (fun _ => ?_) <;> try (exfalso; omega)
            | refine Wo.gtr (fun _ => ?_) (fun _ => ?_) <;> try (exfalso; omega)
            | refine Wo.geq (fun _ => ?_) (fun _ => ?_) <;> try (exfalso; omega)
            | refine Wo.eql (fun _ => ?_) (fun _ => ?_) <;> try (exfalso; omega)
            | refine Wo.neq (fun _ => ?_) (fun _ => ?_) <;> try (exfalso; omega)
            | refine Wo.seq (fun _ => ?_) (fun _ => ?_)
            | refine Wo.sne (fun _ => ?_) (fun _ => ?_)
            | refine Wo.eqS (fun _ => ?_) (fun _ => ?_)
            | refine Wo.neS (fun _ => ?_) (fun _ => ?_)
            | refine Wo.add ?_
            | refine Wo.sub ?_
            | refine Wo.loadW ?_
            | refine Wo.loadSt ?_
            | refine Wo.load ?_
            | refine Wo.storeW ?_
            | refine Wo.store ?_
            | refine Wo.alloc (fun _ => ?_)
            | refine Wo.box (fun _ => ?_)
            | refine Wo.idxA ?_
            | refine Wo.idx (fun _ _ => ?_)
            | refine Wo.cutHi (fun _ _ => ?_)
            | refine Wo.cutLo (fun _ _ => ?_)
            | refine Wo.cutBoth (fun _ _ => ?_)
            | refine Wo.byteA ?_
            | refine Wo.byte (fun _ _ => ?_)
            | refine Wo.loadEw ?_
            | refine Wo.loadE ?_
            | refine Wo.loadL ?_
            | refine Wo.build ?_
            | refine Wo.clos ?_
            | refine Wo.idxO ?_
            | refine Wo.loadMA ?_
            | refine Wo.loadR ?_
            | refine Wo.loadM (fun _ _ => ?_)
            | refine Wo.row (sz := 1) (fun _ => ?_)
            | refine Wo.row (sz := 2) (fun _ => ?_)
            | refine Wo.row (sz := 4) (fun _ => ?_)
            | refine Wo.row (sz := 5) (fun _ => ?_)
            | refine Wo.makeB (fun _ => ?_)
            | refine Wo.makeI (fun _ => ?_)
            | refine Wo.cutO ?_
            | refine Wo.app1 (fun _ => ?_)
            | refine Wo.storeM ?_
            | refine Wo.row0 ?_
            | refine Wo.len ?_
            | refine Wo.pure ?_
            | refine Wo.shut ?_
            | refine Wo.shut' ?_
            | fail)
        | refine Wx.seq ?_
        | refine Wx.plain ?_
        | (guard_target =~ QX _ _ _ _ _ _ _ _
           first
            | refine Wq.normal ?_
            | refine Wq.exit ?_
            | refine Wq.ret ?_
            | refine Wb.normal ?_
            | refine Wb.hit ?_
            | refine Wb.miss ?_
            | refine Wb.ret ?_
            | refine Wl.ret ?_
            | refine Wl.normal ?_
            | fail)
        | refine Wx.yes ?_
        | refine Wx.no ?_
        | refine Wx.block ?_
        | refine Wx.exit ?_
        | refine Wx.ret ?_
        | refine Wx.skip ?_
        | refine Wx.scope ?_
        | refine Wx.still ?_
        | refine Wx.dyn ?_
        | fail)
      refine Wx.loop [1, 2, 3, 4, 5, 13, 14, 15, 16, 17, 18, 19, 20, 21, 35, 36, 37, 38, 39, 40, 41] [0, 1, 10, 38, 39] (fun (s, b) => [(22, .val (iv (s : Nat))), (6, .val (.bool b))]) (fun (s, b) => []) (fun (s, b) => s ≤ t.states.list.length ∧ b = !anyTo t k s) (fun (s, b) => t.states.list.length - s) (0, true) ⟨Nat.zero_le _, rfl⟩ (fun a x y hG => ?_)
      obtain ⟨s, b⟩ := a
      obtain ⟨q1, q2⟩ := hG
      dsimp only [List.cons_append, List.nil_append]
      rcases Nat.lt_or_ge s t.states.list.length with hs | hs
      · obtain ⟨o, ho⟩ := at_some (show 0 + ((s : Nat) : Int).toNat < (reach' t).length by rw [reach_lenD]; omega)
        have ho' : (reach' t)[s]? = some o := by simpa using ho
        have hsu := anyTo_succ (n := k) ho'
        cases o with
        | false =>
          repeat' (first
            | refine Wo.move ?_
            | refine Wo.assign ?_
            | refine Wo.nil ?_
            | refine Wo.nilD ?_
            | (guard_target =~ WX _ _ _ _ _ _ _ _ _ _ _ _
               first
                | refine Wo.lss (fun _ => ?_) (fun _ => ?_) <;> try (exfalso; omega)
                | refine Wo.leq (fun _ => ?_) (fun _ => ?_) <;> try (exfalso; omega)
                | refine Wo.gtr (fun _ => ?_) (fun _ => ?_) <;> try (exfalso; omega)
                | refine Wo.geq (fun _ => ?_) (fun _ => ?_) <;> try (exfalso; omega)
                | refine Wo.eql (fun _ => ?_) (fun _ => ?_) <;> try (exfalso; omega)
                | refine Wo.neq (fun _ => ?_) (fun _ => ?_) <;> try (exfalso; omega)
                | refine Wo.seq (fun _ => ?_) (fun _ => ?_)
                | refine Wo.sne (fun _ => ?_) (fun _ => ?_)
                | refine Wo.eqS (fun _ => ?_) (fun _ => ?_)
                | refine Wo.neS (fun _ => ?_) (fun _ => ?_)
                | refine Wo.add ?_
                | refine Wo.sub ?_
                | refine Wo.loadW ?_
                | refine Wo.loadSt ?_
                | refine Wo.load ?_
                | refine Wo.storeW ?_
                | refine Wo.store ?_
                | refine Wo.alloc (fun _ => ?_)
                | refine Wo.box (fun _ => ?_)
                | refine Wo.idxA ?_
                | refine Wo.idx (fun _ _ => ?_)
                | refine Wo.cutHi (fun _ _ => ?_)
                | refine Wo.cutLo (fun _ _ => ?_)
                | refine Wo.cutBoth (fun _ _ => ?_)
                | refine Wo.byteA ?_
                | refine Wo.byte (fun _ _ => ?_)
                | refine Wo.loadEw ?_
                | refine Wo.loadE ?_
                | refine Wo.loadL ?_
                | refine Wo.build ?_
                | refine Wo.clos ?_
                | refine Wo.idxO ?_
                | refine Wo.loadMA ?_
                | refine Wo.loadR ?_
                | refine Wo.loadM (fun _ _ => ?_)
                | refine Wo.row (sz := 1) (fun _ => ?_)
                | refine Wo.row (sz := 2) (fun _ => ?_)
                | refine Wo.row (sz := 4) (fun _ => ?_)
                | refine Wo.row (sz := 5) (fun _ => ?_)
                | refine Wo.makeB (fun _ => ?_)
                | refine Wo.makeI (fun _ => ?_)
                | refine Wo.cutO ?_
                | refine Wo.app1 (fun _ => ?_)
                | refine Wo.storeM ?_
                | refine Wo.row0 ?_
                | refine Wo.len ?_
                | refine Wo.pure ?_
                | refine Wo.shut ?_
                | refine Wo.shut' ?_
                | fail)
            | refine Wx.seq ?_
            | refine Wx.plain ?_
            | (guard_target =~ QX _ _ _ _ _ _ _ _
               first
                | refine Wq.normal ?_
                | refine Wq.exit ?_
                | refine Wq.ret ?_
                | refine Wb.normal ?_
                | refine Wb.hit ?_
                | refine Wb.miss ?_
                | refine Wb.ret ?_
                | refine Wl.ret ?_
                | refine Wl.normal ?_
                | fail)
            | refine Wx.yes ?_
            | refine Wx.no ?_
            | refine Wx.block ?_
            | refine Wx.exit ?_
            | refine Wx.ret ?_
            | refine Wx.skip ?_
            | refine Wx.scope ?_
            | refine Wx.still ?_
            | refine Wx.dyn ?_
            | fail)
          exact Rd (s + 1, b) (by dsimp only; omega) ⟨by dsimp only; omega, by rw [hsu, q2]; simp⟩
        | true =>
          repeat' (first
            | refine Wo.move ?_
            | refine Wo.assign ?_
            | refine Wo.nil ?_
            | refine Wo.nilD ?_
            | (guard_target =~ WX _ _ _ _ _ _ _ _ _ _ _ _
               first
                | refine Wo.lss (fun _ => ?_) (fun _ => ?_) <;> try (exfalso; omega)
                | refine Wo.leq (fun _ => ?_) (fun _ => ?_) <;> try (exfalso; omega)
                | refine Wo.gtr (fun _ => ?_) (fun _ => ?_) <;> try (exfalso; omega)
                | refine Wo.geq (fun _ => ?_) (fun _ => ?_) <;> try (exfalso; omega)
                | refine Wo.eql (fun _ => ?_) (fun _ => ?_) <;> try (exfalso; omega)
                | refine Wo.neq (fun _ => ?_) (fun _ => ?_) <;> try (exfalso; omega)
                | refine Wo.seq (fun _ => ?_) (fun _ => ?_)
                | refine Wo.sne (fun _ => ?_) (fun _ => ?_)
                | refine Wo.eqS (fun _ => ?_) (fun _ => ?_)
                | refine Wo.neS (fun _ => ?_) (fun _ => ?_)
                | refine Wo.add ?_
                | refine Wo.sub ?_
                | refine Wo.loadW ?_
                | refine Wo.loadSt ?_
                | refine Wo.load ?_
                | refine Wo.storeW ?_
                | refine Wo.store ?_
                | refine Wo.alloc (fun _ => ?_)
                | refine Wo.box (fun _ => ?_)
                | refine Wo.idxA ?_
                | refine Wo.idx (fun _ _ => ?_)
                | refine Wo.cutHi (fun _ _ => ?_)
                | refine Wo.cutLo (fun _ _ => ?_)
                | refine Wo.cutBoth (fun _ _ => ?_)
                | refine Wo.byteA ?_
                | refine Wo.byte (fun _ _ => ?_)
                | refine Wo.loadEw ?_
                | refine Wo.loadE ?_
                | refine Wo.loadL ?_
                | refine Wo.build ?_
                | refine Wo.clos ?_
                | refine Wo.idxO ?_
                | refine Wo.loadMA ?_
                | refine Wo.loadR ?_
                | refine Wo.loadM (fun _ _ => ?_)
                | refine Wo.row (sz := 1) (fun _ => ?_)
                | refine Wo.row (sz := 2) (fun _ => ?_)
                | refine Wo.row (sz := 4) (fun _ => ?_)
                | refine Wo.row (sz := 5) (fun _ => ?_)
                | refine Wo.makeB (fun _ => ?_)
                | refine Wo.makeI (fun _ => ?_)
                | refine Wo.cutO ?_
                | refine Wo.app1 (fun _ => ?_)
                | refine Wo.storeM ?_
                | refine Wo.row0 ?_
                | refine Wo.callB (r_For t k s ht) (fun _ => ?_) (fun _ => ?_)
                | refine Wo.len ?_
                | refine Wo.pure ?_
                | refine Wo.shut ?_
                | refine Wo.shut' ?_
                | fail)
            | refine Wx.seq ?_
            | refine Wx.plain ?_
            | (guard_target =~ QX _ _ _ _ _ _ _ _
               first
                | refine Wq.normal ?_
                | refine Wq.exit ?_
                | refine Wq.ret ?_
                | refine Wb.normal ?_
                | refine Wb.hit ?_
                | refine Wb.miss ?_
                | refine Wb.ret ?_
                | refine Wl.ret ?_
                | refine Wl.normal ?_
                | fail)
            | refine Wx.yes ?_
            | refine Wx.no ?_
            | refine Wx.block ?_
            | refine Wx.exit ?_
            | refine Wx.ret ?_
            | refine Wx.skip ?_
            | refine Wx.scope ?_
            | refine Wx.still ?_
            | refine Wx.dyn ?_
            | fail)
          · have hf : for' t k s = true := by assumption
            exact Rd (s + 1, false) (by dsimp only; omega) ⟨by dsimp only; omega, by rw [hsu, hf]; simp⟩
          · have hf : for' t k s = false := by assumption
            exact Rd (s + 1, b) (by dsimp only; omega) ⟨by dsimp only; omega, by rw [hsu, hf, q2]; simp⟩
      · have hss : s = t.states.list.length := by omega
        subst hss
        have hdb : deadB t k = b := q2.symm
        cases b
        · repeat' (first
            | refine Wo.move ?_
            | refine Wo.assign ?_
            | refine Wo.nil ?_
            | refine Wo.nilD ?_
            | (guard_target =~ WX _ _ _ _ _ _ _ _ _ _ _ _
               first
                | refine Wo.lss (fun _ => ?_) (fun _ => ?_) <;> try (exfalso; omega)
                | refine Wo.leq (fun _ => ?_) (fun _ => ?_) <;> try (exfalso; omega)
                | refine Wo.gtr (fun _ => ?_) (fun _ => ?_) <;> try (exfalso; omega)
                | refine Wo.geq (fun _ => ?_) (fun _ => ?_) <;> try (exfalso; omega)
                | refine Wo.eql (fun _ => ?_) (fun _ => ?_) <;> try (exfalso; omega)
                | refine Wo.neq (fun _ => ?_) (fun _ => ?_) <;> try (exfalso; omega)
                | refine Wo.seq (fun _ => ?_) (fun _ => ?_)
                | refine Wo.sne (fun _ => ?_) (fun _ => ?_)
                | refine Wo.eqS (fun _ => ?_) (fun _ => ?_)
                | refine Wo.neS (fun _ => ?_) (fun _ => ?_)
                | refine Wo.add ?_
                | refine Wo.sub ?_
                | refine Wo.loadW ?_
                | refine Wo.loadSt ?_
                | refine Wo.load ?_
                | refine Wo.storeW ?_
                | refine Wo.store ?_
                | refine Wo.alloc (fun _ => ?_)
                | refine Wo.box (fun _ => ?_)
                | refine Wo.idxA ?_
                | refine Wo.idx (fun _ _ => ?_)
                | refine Wo.cutHi (fun _ _ => ?_)
                | refine Wo.cutLo (fun _ _ => ?_)
                | refine Wo.cutBoth (fun _ _ => ?_)
                | refine Wo.byteA ?_
                | refine Wo.byte (fun _ _ => ?_)
                | refine Wo.loadEw ?_
                | refine Wo.loadE ?_
                | refine Wo.loadL ?_
                | refine Wo.build ?_
                | refine Wo.clos ?_
                | refine Wo.idxO ?_
                | refine Wo.loadMA ?_
                | refine Wo.loadR ?_
                | refine Wo.loadM (fun _ _ => ?_)
                | refine Wo.row (sz := 1) (fun _ => ?_)
                | refine Wo.row (sz := 2) (fun _ => ?_)
                | refine Wo.row (sz := 4) (fun _ => ?_)
                | refine Wo.row (sz := 5) (fun _ => ?_)
                | refine Wo.makeB (fun _ => ?_)
                | refine Wo.makeI (fun _ => ?_)
                | refine Wo.cutO ?_
                | refine Wo.app1 (fun _ => ?_)
                | refine Wo.storeM ?_
                | refine Wo.row0 ?_
                | refine Wo.len ?_
                | refine Wo.pure ?_
                | refine Wo.shut ?_
                | refine Wo.shut' ?_
                | fail)
            | refine Wx.seq ?_
            | refine Wx.plain ?_
            | (guard_target =~ QX _ _ _ _ _ _ _ _
               first
                | refine Wq.normal ?_
                | refine Wq.exit ?_
                | refine Wq.ret ?_
                | refine Wb.normal ?_
                | refine Wb.hit ?_
                | refine Wb.miss ?_
                | refine Wb.ret ?_
                | refine Wl.ret ?_
                | refine Wl.normal ?_
                | fail)
            | refine Wx.yes ?_
            | refine Wx.no ?_
            | refine Wx.block ?_
            | refine Wx.exit ?_
            | refine Wx.ret ?_
            | refine Wx.skip ?_
            | refine Wx.scope ?_
            | refine Wx.still ?_
            | refine Wx.dyn ?_
            | fail)
          exact Rd (k + 1, false, g, D, m) (by dsimp only; omega) ⟨⟨by dsimp only; omega, hm⟩, by rw [deadL_succ, hdb, h2]; simp, h3, h4⟩
        · repeat' (first
            | refine Wo.move ?_
            | refine Wo.assign ?_
            | refine Wo.nil ?_
            | refine Wo.nilD ?_
            | (guard_target =~ WX _ _ _ _ _ _ _ _ _ _ _ _
               first
                | refine Wo.lss (fun _ => ?_) (fun _ => ?_) <;> try (exfalso; omega)
                | refine Wo.leq (fun _ => ?_) (fun _ => ?_) <;> try (exfalso; omega)
                | refine Wo.gtr (fun _ => ?_) (fun _ => ?_) <;> try (exfalso; omega)
                | refine Wo.geq (fun _ => ?_) (fun _ => ?_) <;> try (exfalso; omega)
                | refine Wo.eql (fun _ => ?_) (fun _ => ?_) <;> try (exfalso; omega)
                | refine Wo.neq (fun _ => ?_) (fun _ => ?_) <;> try (exfalso; omega)
                | refine Wo.seq (fun _ => ?_) (fun _ => ?_)
                | refine Wo.sne (fun _ => ?_) (fun _ => ?_)
                | refine Wo.eqS (fun _ => ?_) (fun _ => ?_)
                | refine Wo.neS (fun _ => ?_) (fun _ => ?_)
                | refine Wo.add ?_
                | refine Wo.sub ?_
                | refine Wo.loadW ?_
                | refine Wo.loadSt ?_
                | refine Wo.load ?_
                | refine Wo.storeW ?_
                | refine Wo.store ?_
                | refine Wo.alloc (fun _ => ?_)
                | refine Wo.box (fun _ => ?_)
                | refine Wo.idxA ?_
                | refine Wo.idx (fun _ _ => ?_)
                | refine Wo.cutHi (fun _ _ => ?_)
                | refine Wo.cutLo (fun _ _ => ?_)
                | refine Wo.cutBoth (fun _ _ => ?_)
                | refine Wo.byteA ?_
                | refine Wo.byte (fun _ _ => ?_)
                | refine Wo.loadEw ?_
                | refine Wo.loadE ?_
                | refine Wo.loadL ?_
                | refine Wo.build ?_
                | refine Wo.clos ?_
                | refine Wo.idxO ?_
                | refine Wo.loadMA ?_
                | refine Wo.loadR ?_
                | refine Wo.loadM (fun _ _ => ?_)
                | refine Wo.row (sz := 1) (fun _ => ?_)
                | refine Wo.row (sz := 2) (fun _ => ?_)
                | refine Wo.row (sz := 4) (fun _ => ?_)
                | refine Wo.row (sz := 5) (fun _ => ?_)
                | refine Wo.makeB (fun _ => ?_)
                | refine Wo.makeI (fun _ => ?_)
                | refine Wo.cutO ?_
                | refine Wo.app1 (fun _ => ?_)
                | refine Wo.storeM ?_
                | refine Wo.row0 ?_
                | refine Wo.len ?_
                | refine Wo.pure ?_
                | refine Wo.shut ?_
                | refine Wo.shut' ?_
                | fail)
            | refine Wx.seq ?_
            | refine Wx.plain ?_
            | (guard_target =~ QX _ _ _ _ _ _ _ _
               first
                | refine Wq.normal ?_
                | refine Wq.exit ?_
                | refine Wq.ret ?_
                | refine Wb.normal ?_
                | refine Wb.hit ?_
                | refine Wb.miss ?_
                | refine Wb.ret ?_
                | refine Wl.ret ?_
                | refine Wl.normal ?_
                | fail)
            | refine Wx.yes ?_
            | refine Wx.no ?_
            | refine Wx.block ?_
            | refine Wx.exit ?_
            | refine Wx.ret ?_
            | refine Wx.skip ?_
            | refine Wx.scope ?_
            | refine Wx.still ?_
            | refine Wx.dyn ?_
            | fail)
          exact Rd (k + 1, false, _, D.take m ++ [(k : Int)], m + 1) (by dsimp only; omega) ⟨⟨by dsimp only; omega, by dsimp only; rw [List.length_append, List.length_take, List.length_singleton]; omega⟩, by rw [deadL_succ, hdb, List.take_of_length_le (by omega), h2]; simp, (fun h => by cases h), fun _ => by simp⟩
    · repeat' (first
        | refine Wo.move ?_
        | refine Wo.assign ?_
        | refine Wo.nil ?_
        | refine Wo.nilD ?_
        | (guard_target =~ WX _ _ _ _ _ _ _ _ _ _ _ _
           first
            | refine Wo.lss (fun _ => ?_) (fun _ => ?_) <;> try (exfalso; omega)
            | refine Wo.leq (fun _ => ?_) (fun _ => ?_) <;> try (exfalso; omega)
            | refine Wo.gtr (fun _ => ?_) (fun _ => ?_) <;> try (exfalso; omega)
            | refine Wo.geq (fun _ => ?_) (fun _ => ?_) <;> try (exfalso; omega)
            | refine Wo.eql (fun _ => ?_) (fun _ => ?_) <;> try (exfalso; omega)
            | refine Wo.neq (fun _ => ?_) (fun _ => ?_) <;> try (exfalso; omega)
            | refine Wo.seq (fun _ => ?_) (fun _ => ?_)
            | refine Wo.sne (fun _ => ?_) (fun _ => ?_)
            | refine Wo.eqS (fun _ => ?_) (fun _ => ?_)
            | refine Wo.neS (fun _ => ?_) (fun _ => ?_)
            | refine Wo.add ?_
            | refine Wo.sub ?_
            | refine Wo.loadW ?_
            | refine Wo.loadSt ?_
            | refine Wo.load ?_
            | refine Wo.storeW ?_
            | refine Wo.store ?_
            | refine Wo.alloc (fun _ => ?_)
            | refine Wo.box (fun _ => ?_)
            | refine Wo.idxA ?_
            | refine Wo.idx (fun _ _ => ?_)
            | refine Wo.cutHi (fun _ _ => ?_)
            | refine Wo.cutLo (fun _ _ => ?_)
            | refine Wo.cutBoth (fun _ _ => ?_)
            | refine Wo.byteA ?_
            | refine Wo.byte (fun _ _ => ?_)
            | refine Wo.loadEw ?_
            | refine Wo.loadE ?_
            | refine Wo.loadL ?_
            | refine Wo.build ?_
            | refine Wo.clos ?_
            | refine Wo.idxO ?_
            | refine Wo.loadMA ?_
            | refine Wo.loadR ?_
            | refine Wo.loadM (fun _ _ => ?_)
            | refine Wo.row (sz := 1) (fun _ => ?_)
            | refine Wo.row (sz := 2) (fun _ => ?_)
            | refine Wo.row (sz := 4) (fun _ => ?_)
            | refine Wo.row (sz := 5) (fun _ => ?_)
            | refine Wo.makeB (fun _ => ?_)
            | refine Wo.makeI (fun _ => ?_)
            | refine Wo.cutO ?_
            | refine Wo.app1 (fun _ => ?_)
            | refine Wo.storeM ?_
            | refine Wo.row0 ?_
            | refine Wo.len ?_
            | refine Wo.pure ?_
            | refine Wo.shut ?_
            | refine Wo.shut' ?_
            | fail)
        | refine Wx.seq ?_
        | refine Wx.plain ?_
        | (guard_target =~ QX _ _ _ _ _ _ _ _
           first
            | refine Wq.normal ?_
            | refine Wq.exit ?_
            | refine Wq.ret ?_
            | refine Wb.normal ?_
            | refine Wb.hit ?_
            | refine Wb.miss ?_
            | refine Wb.ret ?_
            | refine Wl.ret ?_
            | refine Wl.normal ?_
            | fail)
        | refine Wx.yes ?_
        | refine Wx.no ?_
        | refine Wx.block ?_
        | refine Wx.exit ?_
        | refine Wx.ret ?_
        | refine Wx.skip ?_
        | refine Wx.scope ?_
        | refine Wx.still ?_
        | refine Wx.dyn ?_
        | fail)
      refine Wx.loop [1, 2, 3, 4, 5, 13, 14, 15, 16, 17, 18, 19, 20, 21, 35, 36, 37, 38, 39, 40, 41] [0, 1, 10, 38, 39] (fun (s, b) => [(22, .val (iv (s : Nat))), (6, .val (.bool b))]) (fun (s, b) => []) (fun (s, b) => s ≤ t.states.list.length ∧ b = !anyTo t k s) (fun (s, b) => t.states.list.length - s) (0, true) ⟨Nat.zero_le _, rfl⟩ (fun a x y hG => ?_)
      obtain ⟨s, b⟩ := a
      obtain ⟨q1, q2⟩ := hG
      dsimp only [List.cons_append, List.nil_append]
      rcases Nat.lt_or_ge s t.states.list.length with hs | hs
      · obtain ⟨o, ho⟩ := at_some (show 0 + ((s : Nat) : Int).toNat < (reach' t).length by rw [reach_lenD]; omega)
        have ho' : (reach' t)[s]? = some o := by simpa using ho
        have hsu := anyTo_succ (n := k) ho'
        cases o with
        | false =>
          repeat' (first
            | refine Wo.move ?_
            | refine Wo.assign ?_
            | refine Wo.nil ?_
            | refine Wo.nilD ?_
            | (guard_target =~ WX _ _ _ _ _ _ _ _ _ _ _ _
               first
                | refine Wo.lss (fun _ => ?_) (fun _ => ?_) <;> try (exfalso; omega)
                | refine Wo.leq (fun _ => ?_) (fun _ => ?_) <;> try (exfalso; omega)
                | refine Wo.gtr (fun _ => ?_) (fun _ => ?_) <;> try (exfalso; omega)
                | refine Wo.geq (fun _ => ?_) (fun _ => ?_) <;> try (exfalso; omega)
                | refine Wo.eql (fun _ => ?_) (fun _ => ?_) <;> try (exfalso; omega)
                | refine Wo.neq (fun _ => ?_) (fun _ => ?_) <;> try (exfalso; omega)
                | refine Wo.seq (fun _ => ?_) (fun _ => ?_)
                | refine Wo.sne (fun _ => ?_) (fun _ => ?_)
                | refine Wo.eqS (fun _ => ?_) (fun _ => ?_)
                | refine Wo.neS (fun _ => ?_) (fun _ => ?_)
                | refine Wo.add ?_
                | refine Wo.sub ?_
                | refine Wo.loadW ?_
                | refine Wo.loadSt ?_
                | refine Wo.load ?_
                | refine Wo.storeW ?_
                | refine Wo.store ?_
                | refine Wo.alloc (fun _ => ?_)
                | refine Wo.box (fun _ => ?_)
                | refine Wo.idxA ?_
                | refine Wo.idx (fun _ _ => ?_)
                | refine Wo.cutHi (fun _ _ => ?_)
                | refine Wo.cutLo (fun _ _ => ?_)
                | refine Wo.cutBoth (fun _ _ => ?_)
                | refine Wo.byteA ?_
                | refine Wo.byte (fun _ _ => ?_)
                | refine Wo.loadEw ?_
                | refine Wo.loadE ?_
                | refine Wo.loadL ?_
                | refine Wo.build ?_
                | refine Wo.clos ?_
                | refine Wo.idxO ?_
                | refine Wo.loadMA ?_
                | refine Wo.loadR ?_
                | refine Wo.loadM (fun _ _ => ?_)
                | refine Wo.row (sz := 1) (fun _ => ?_)
                | refine Wo.row (sz := 2) (fun _ => ?_)
                | refine Wo.row (sz := 4) (fun _ => ?_)
                | refine Wo.row (sz := 5) (fun _ => ?_)
                | refine Wo.makeB (fun _ => ?_)
                | refine Wo.makeI (fun _ => ?_)
                | refine Wo.cutO ?_
                | refine Wo.app1 (fun _ => ?_)
                | refine Wo.storeM ?_
                | refine Wo.row0 ?_
                | refine Wo.len ?_
                | refine Wo.pure ?_
                | refine Wo.shut ?_
                | refine Wo.shut' ?_
                | fail)
            | refine Wx.seq ?_
            | refine Wx.plain ?_
            | (guard_target =~ QX _ _ _ _ _ _ _ _
               first
                | refine Wq.normal ?_
                | refine Wq.exit ?_
                | refine Wq.ret ?_
                | refine Wb.normal ?_
                | refine Wb.hit ?_
                | refine Wb.miss ?_
                | refine Wb.ret ?_
                | refine Wl.ret ?_
                | refine Wl.normal ?_
                | fail)
            | refine Wx.yes ?_
            | refine Wx.no ?_
            | refine Wx.block ?_
            | refine Wx.exit ?_
            | refine Wx.ret ?_
            | refine Wx.skip ?_
            | refine Wx.scope ?_
            | refine Wx.still ?_
            | refine Wx.dyn ?_
            | fail)
          exact Rd (s + 1, b) (by dsimp only; omega) ⟨by dsimp only; omega, by rw [hsu, q2]; simp⟩
        | true =>
          repeat' (first
            | refine Wo.move ?_
            | refine Wo.assign ?_
            | refine Wo.nil ?_
            | refine Wo.nilD ?_
            | (guard_target =~ WX _ _ _ _ _ _ _ _ _ _ _ _
               first
                | refine Wo.lss (fun _ => ?_) (fun _ => ?_) <;> try (exfalso; omega)
                | refine Wo.leq (fun _ => ?_) (fun _ => ?_) <;> try (exfalso; omega)
                | refine Wo.gtr (fun _ => ?_) (fun _ => ?_) <;> try (exfalso; omega)
                | refine Wo.geq (fun _ => ?_) (fun _ => ?_) <;> try (exfalso; omega)
                | refine Wo.eql (fun _ => ?_) (fun _ => ?_) <;> try (exfalso; omega)
                | refine Wo.neq (fun _ => ?_) (fun _ => ?_) <;> try (exfalso; omega)
                | refine Wo.seq (fun _ => ?_) (fun _ => ?_)
                | refine Wo.sne (fun _ => ?_) (fun _ => ?_)
                | refine Wo.eqS (fun _ => ?_) (fun _ => ?_)
                | refine Wo.neS (fun _ => ?_) (fun _ => ?_)
                | refine Wo.add ?_
                | refine Wo.sub ?_
                | refine Wo.loadW ?_
                | refine Wo.loadSt ?_
                | refine Wo.load ?_
                | refine Wo.storeW ?_
                | refine Wo.store ?_
                | refine Wo.alloc (fun _ => ?_)
                | refine Wo.box (fun _ => ?_)
                | refine Wo.idxA ?_
                | refine Wo.idx (fun _ _ => ?_)
                | refine Wo.cutHi (fun _ _ => ?_)
                | refine Wo.cutLo (fun _ _ => ?_)
                | refine Wo.cutBoth (fun _ _ => ?_)
                | refine Wo.byteA ?_
                | refine Wo.byte (fun _ _ => ?_)
                | refine Wo.loadEw ?_
                | refine Wo.loadE ?_
                | refine Wo.loadL ?_
                | refine Wo.build ?_
                | refine Wo.clos ?_
                | refine Wo.idxO ?_
                | refine Wo.loadMA ?_
                | refine Wo.loadR ?_
                | refine Wo.loadM (fun _ _ => ?_)
                | refine Wo.row (sz := 1) (fun _ => ?_)
                | refine Wo.row (sz := 2) (fun _ => ?_)
                | refine Wo.row (sz := 4) (fun _ => ?_)
                | refine Wo.row (sz := 5) (fun _ => ?_)
                | refine Wo.makeB (fun _ => ?_)
                | refine Wo.makeI (fun _ => ?_)
                | refine Wo.cutO ?_
                | refine Wo.app1 (fun _ => ?_)
                | refine Wo.storeM ?_
                | refine Wo.row0 ?_
                | refine Wo.callB (r_For t k s ht) (fun _ => ?_) (fun _ => ?_)
                | refine Wo.len ?_
                | refine Wo.pure ?_
                | refine Wo.shut ?_
                | refine Wo.shut' ?_
                | fail)
            | refine Wx.seq ?_
            | refine Wx.plain ?_
            | (guard_target =~ QX _ _ _ _ _ _ _ _
               first
                | refine Wq.normal ?_
                | refine Wq.exit ?_
                | refine Wq.ret ?_
                | refine Wb.normal ?_
                | refine Wb.hit ?_
                | refine Wb.miss ?_
                | refine Wb.ret ?_
                | refine Wl.ret ?_
                | refine Wl.normal ?_
                | fail)
            | refine Wx.yes ?_
            | refine Wx.no ?_
            | refine Wx.block ?_
            | refine Wx.exit ?_
            | refine Wx.ret ?_
            | refine Wx.skip ?_
            | refine Wx.scope ?_
            | refine Wx.still ?_
            | refine Wx.dyn ?_
            | fail)
          · have hf : for' t k s = true := by assumption
            exact Rd (s + 1, false) (by dsimp only; omega) ⟨by dsimp only; omega, by rw [hsu, hf]; simp⟩
          · have hf : for' t k s = false := by assumption
            exact Rd (s + 1, b) (by dsimp only; omega) ⟨by dsimp only; omega, by rw [hsu, hf, q2]; simp⟩
      · have hss : s = t.states.list.length := by omega
        subst hss
        have hdb : deadB t k = b := q2.symm
        cases b
        · repeat' (first
            | refine Wo.move ?_
            | refine Wo.assign ?_
            | refine Wo.nil ?_
            | refine Wo.nilD ?_
            | (guard_target =~ WX _ _ _ _ _ _ _ _ _ _ _ _
               first
                | refine Wo.lss (fun _ => ?_) (fun _ => ?_) <;> try (exfalso; omega)
                | refine Wo.leq (fun _ => ?_) (fun _ => ?_) <;> try (exfalso; omega)
                | refine Wo.gtr (fun _ => ?_) (fun _ => ?_) <;> try (exfalso; omega)
                | refine Wo.geq (fun _ => ?_) (fun _ => ?_) <;> try (exfalso; omega)
                | refine Wo.eql (fun _ => ?_) (fun _ => ?_) <;> try (exfalso; omega)
                | refine Wo.neq (fun _ => ?_) (fun _ => ?_) <;> try (exfalso; omega)
                | refine Wo.seq (fun _ => ?_) (fun _ => ?_)
                | refine Wo.sne (fun _ => ?_) (fun _ => ?_)
                | refine Wo.eqS (fun _ => ?_) (fun _ => ?_)
                | refine Wo.neS (fun _ => ?_) (fun _ => ?_)
                | refine Wo.add ?_
                | refine Wo.sub ?_
                | refine Wo.loadW ?_
                | refine Wo.loadSt ?_
                | refine Wo.load ?_
                | refine Wo.storeW ?_
                | refine Wo.store ?_
                | refine Wo.alloc (fun _ => ?_)
                | refine Wo.box (fun _ => ?_)
                | refine Wo.idxA ?_
                | refine Wo.idx (fun _ _ => ?_)
                | refine Wo.cutHi (fun _ _ => ?_)
                | refine Wo.cutLo (fun _ _ => ?_)
                | refine Wo.cutBoth (fun _ _ => ?_)
                | refine Wo.byteA ?_
                | refine Wo.byte (fun _ _ => ?_)
                | refine Wo.loadEw ?_
                | refine Wo.loadE ?_
                | refine Wo.loadL ?_
                | refine Wo.build ?_
                | refine Wo.clos ?_
                | refine Wo.idxO ?_
                | refine Wo.loadMA ?_
                | refine Wo.loadR ?_
                | refine Wo.loadM (fun _ _ => ?_)
                | refine Wo.row (sz := 1) (fun _ => ?_)
                | refine Wo.row (sz := 2) (fun _ => ?_)
                | refine Wo.row (sz := 4) (fun _ => ?_)
                | refine Wo.row (sz := 5) (fun _ => ?_)
                | refine Wo.makeB (fun _ => ?_)
                | refine Wo.makeI (fun _ => ?_)
                | refine Wo.cutO ?_
                | refine Wo.app1 (fun _ => ?_)
                | refine Wo.storeM ?_
                | refine Wo.row0 ?_
                | refine Wo.len ?_
                | refine Wo.pure ?_
                | refine Wo.shut ?_
                | refine Wo.shut' ?_
                | fail)
            | refine Wx.seq ?_
            | refine Wx.plain ?_
            | (guard_target =~ QX _ _ _ _ _ _ _ _
               first
                | refine Wq.normal ?_
                | refine Wq.exit ?_
                | refine Wq.ret ?_
                | refine Wb.normal ?_
                | refine Wb.hit ?_
                | refine Wb.miss ?_
                | refine Wb.ret ?_
                | refine Wl.ret ?_
                | refine Wl.normal ?_
                | fail)
            | refine Wx.yes ?_
            | refine Wx.no ?_
            | refine Wx.block ?_
            | refine Wx.exit ?_
            | refine Wx.ret ?_
            | refine Wx.skip ?_
            | refine Wx.scope ?_
            | refine Wx.still ?_
            | refine Wx.dyn ?_
            | fail)
          exact Rd (k + 1, true, g, D, m) (by dsimp only; omega) ⟨⟨by dsimp only; omega, hm⟩, by rw [deadL_succ, hdb, h2]; simp, h3, h4⟩
        · have hD := h3 rfl
          subst hD
          repeat' (first
            | refine Wo.move ?_
            | refine Wo.assign ?_
            | refine Wo.nil ?_
            | refine Wo.nilD ?_
            | (guard_target =~ WX _ _ _ _ _ _ _ _ _ _ _ _
               first
                | refine Wo.lss (fun _ => ?_) (fun _ => ?_) <;> try (exfalso; omega)
                | refine Wo.leq (fun _ => ?_) (fun _ => ?_) <;> try (exfalso; omega)
                | refine Wo.gtr (fun _ => ?_) (fun _ => ?_) <;> try (exfalso; omega)
                | refine Wo.geq (fun _ => ?_) (fun _ => ?_) <;> try (exfalso; omega)
                | refine Wo.eql (fun _ => ?_) (fun _ => ?_) <;> try (exfalso; omega)
                | refine Wo.neq (fun _ => ?_) (fun _ => ?_) <;> try (exfalso; omega)
                | refine Wo.seq (fun _ => ?_) (fun _ => ?_)
                | refine Wo.sne (fun _ => ?_) (fun _ => ?_)
                | refine Wo.eqS (fun _ => ?_) (fun _ => ?_)
                | refine Wo.neS (fun _ => ?_) (fun _ => ?_)
                | refine Wo.add ?_
                | refine Wo.sub ?_
                | refine Wo.loadW ?_
                | refine Wo.loadSt ?_
                | refine Wo.load ?_
                | refine Wo.storeW ?_
                | refine Wo.store ?_
                | refine Wo.alloc (fun _ => ?_)
                | refine Wo.box (fun _ => ?_)
                | refine Wo.idxA ?_
                | refine Wo.idx (fun _ _ => ?_)
                | refine Wo.cutHi (fun _ _ => ?_)
                | refine Wo.cutLo (fun _ _ => ?_)
                | refine Wo.cutBoth (fun _ _ => ?_)
                | refine Wo.byteA ?_
                | refine Wo.byte (fun _ _ => ?_)
                | refine Wo.loadEw ?_
                | refine Wo.loadE ?_
                | refine Wo.loadL ?_
                | refine Wo.build ?_
                | refine Wo.clos ?_
                | refine Wo.idxO ?_
                | refine Wo.loadMA ?_
                | refine Wo.loadR ?_
                | refine Wo.loadM (fun _ _ => ?_)
                | refine Wo.row (sz := 1) (fun _ => ?_)
                | refine Wo.row (sz := 2) (fun _ => ?_)
                | refine Wo.row (sz := 4) (fun _ => ?_)
                | refine Wo.row (sz := 5) (fun _ => ?_)
                | refine Wo.makeB (fun _ => ?_)
                | refine Wo.makeI (fun _ => ?_)
                | refine Wo.cutO ?_
                | refine Wo.app1 (fun _ => ?_)
                | refine Wo.storeM ?_
                | refine Wo.row0 ?_
                | refine Wo.app1n (enc := iv) (fun _ => rfl) (fun _ => ?_)
                | refine Wo.len ?_
                | refine Wo.pure ?_
                | refine Wo.shut ?_
                | refine Wo.shut' ?_
                | fail)
            | refine Wx.seq ?_
            | refine Wx.plain ?_
            | (guard_target =~ QX _ _ _ _ _ _ _ _
               first
                | refine Wq.normal ?_
                | refine Wq.exit ?_
                | refine Wq.ret ?_
                | refine Wb.normal ?_
                | refine Wb.hit ?_
                | refine Wb.miss ?_
                | refine Wb.ret ?_
                | refine Wl.ret ?_
                | refine Wl.normal ?_
                | fail)
            | refine Wx.yes ?_
            | refine Wx.no ?_
            | refine Wx.block ?_
            | refine Wx.exit ?_
            | refine Wx.ret ?_
            | refine Wx.skip ?_
            | refine Wx.scope ?_
            | refine Wx.still ?_
            | refine Wx.dyn ?_
            | fail)
          exact Rd (k + 1, false, _, [(k : Int)], 1) (by dsimp only; omega) ⟨⟨by dsimp only; omega, rfl⟩, by rw [deadL_succ, hdb, ← h2]; rfl, (fun h => by cases h), fun _ => by simp⟩
  · have hkk : k = t.rules.list.length := by omega
    subst hkk
    cases e <;> dsimp only [cond]
    · have hD := h4 rfl
      subst h2
      repeat' (first
        | refine Wo.move ?_
        | refine Wo.assign ?_
        | refine Wo.nil ?_
        | refine Wo.nilD ?_
        | (guard_target =~ WX _ _ _ _ _ _ _ _ _ _ _ _
           first
            | refine Wo.lss (fun _ => ?_) (fun _ => ?_) <;> try (exfalso; omega)
            | refine Wo.leq (fun _ => ?_) (fun _ => ?_) <;> try (exfalso; omega)
            | refine Wo.gtr (fun _ => ?_) (fun _ => ?_) <;> try (exfalso; omega)
            | refine Wo.geq (fun _ => ?_) (fun _ => ?_) <;> try (exfalso; omega)
            | refine Wo.eql (fun _ => ?_) (fun _ => ?_) <;> try (exfalso; omega)
            | refine Wo.neq (fun _ => ?_) (fun _ => ?_) <;> try (exfalso; omega)
            | refine Wo.seq (fun _ => ?_) (fun _ => ?_)
            | refine Wo.sne (fun _ => ?_) (fun _ => ?_)
            | refine Wo.eqS (fun _ => ?_) (fun _ => ?_)
            | refine Wo.neS (fun _ => ?_) (fun _ => ?_)
            | refine Wo.add ?_
            | refine Wo.sub ?_
            | refine Wo.loadW ?_
            | refine Wo.loadSt ?_
            | refine Wo.load ?_
            | refine Wo.storeW ?_
            | refine Wo.store ?_
            | refine Wo.alloc (fun _ => ?_)
            | refine Wo.box (fun _ => ?_)
            | refine Wo.idxA ?_
            | refine Wo.idx (fun _ _ => ?_)
            | refine Wo.cutHi (fun _ _ => ?_)
            | refine Wo.cutLo (fun _ _ => ?_)
            | refine Wo.cutBoth (fun _ _ => ?_)
            | refine Wo.byteA ?_
            | refine Wo.byte (fun _ _ => ?_)
            | refine Wo.loadEw ?_
            | refine Wo.loadE ?_
            | refine Wo.loadL ?_
            | refine Wo.build ?_
            | refine Wo.clos ?_
            | refine Wo.idxO ?_
            | refine Wo.loadMA ?_
            | refine Wo.loadR ?_
            | refine Wo.loadM (fun _ _ => ?_)
            | refine Wo.row (sz := 1) (fun _ => ?_)
            | refine Wo.row (sz := 2) (fun _ => ?_)
            | refine Wo.row (sz := 4) (fun _ => ?_)
            | refine Wo.row (sz := 5) (fun _ => ?_)
            | refine Wo.makeB (fun _ => ?_)
            | refine Wo.makeI (fun _ => ?_)
            | refine Wo.cutO ?_
            | refine Wo.app1 (fun _ => ?_)
            | refine Wo.storeM ?_
            | refine Wo.row0 ?_
            | refine Wo.len ?_
            | refine Wo.pure ?_
            | refine Wo.shut ?_
            | refine Wo.shut' ?_
            | fail)
        | refine Wx.seq ?_
        | refine Wx.plain ?_
        | (guard_target =~ QX _ _ _ _ _ _ _ _
           first
            | refine Wq.normal ?_
            | refine Wq.exit ?_
            | refine Wq.ret ?_
            | refine Wb.normal ?_
            | refine Wb.hit ?_
            | refine Wb.miss ?_
            | refine Wb.ret ?_
            | refine Wl.ret ?_
            | refine Wl.normal ?_
            | fail)
        | refine Wx.yes ?_
        | refine Wx.no ?_
        | refine Wx.block ?_
        | refine Wx.exit ?_
        | refine Wx.ret ?_
        | refine Wx.skip ?_
        | refine Wx.scope ?_
        | refine Wx.still ?_
        | refine Wx.dyn ?_
        | fail)
      refine Wl.retR ?_ (ho := .own rfl (by rw [List.length_map]; exact hm) .nil)
      rw [deadR_own hD]
    · have hD := h3 rfl
      subst hD
      repeat' (first
        | refine Wo.move ?_
        | refine Wo.assign ?_
        | refine Wo.nil ?_
        | refine Wo.nilD ?_
        | (guard_target =~ WX _ _ _ _ _ _ _ _ _ _ _ _
           first
            | refine Wo.lss (fun _ => ?_) (fun _ => ?_) <;> try (exfalso; omega)
            | refine Wo.leq (fun _ => ?_) (fun _ => ?_) <;> try (exfalso; omega)
            | refine Wo.gtr (fun _ => ?_) (fun _ => ?_) <;> try (exfalso; omega)
            | refine Wo.geq (fun _ => ?_) (fun _ => ?_) <;> try (exfalso; omega)
            | refine Wo.eql (fun _ => ?_) (fun _ => ?_) <;> try (exfalso; omega)
            | refine Wo.neq (fun _ => ?_) (fun _ => ?_) <;> try (exfalso; omega)
            | refine Wo.seq (fun _ => ?_) (fun _ => ?_)
            | refine Wo.sne (fun _ => ?_) (fun _ => ?_)
            | refine Wo.eqS (fun _ => ?_) (fun _ => ?_)
            | refine Wo.neS (fun _ => ?_) (fun _ => ?_)
            | refine Wo.add ?_
            | refine Wo.sub ?_
            | refine Wo.loadW ?_
            | refine Wo.loadSt ?_
            | refine Wo.load ?_
            | refine Wo.storeW ?_
            | refine Wo.store ?_
            | refine Wo.alloc (fun _ => ?_)
            | refine Wo.box (fun _ => ?_)
            | refine Wo.idxA ?_
            | refine Wo.idx (fun _ _ => ?_)
            | refine Wo.cutHi (fun _ _ => ?_)
            | refine Wo.cutLo (fun _ _ => ?_)
            | refine Wo.cutBoth (fun _ _ => ?_)
            | refine Wo.byteA ?_
            | refine Wo.byte (fun _ _ => ?_)
            | refine Wo.loadEw ?_
            | refine Wo.loadE ?_
            | refine Wo.loadL ?_
            | refine Wo.build ?_
            | refine Wo.clos ?_
            | refine Wo.idxO ?_
            | refine Wo.loadMA ?_
            | refine Wo.loadR ?_
            | refine Wo.loadM (fun _ _ => ?_)
            | refine Wo.row (sz := 1) (fun _ => ?_)
            | refine Wo.row (sz := 2) (fun _ => ?_)
            | refine Wo.row (sz := 4) (fun _ => ?_)
            | refine Wo.row (sz := 5) (fun _ => ?_)
            | refine Wo.makeB (fun _ => ?_)
            | refine Wo.makeI (fun _ => ?_)
            | refine Wo.cutO ?_
            | refine Wo.app1 (fun _ => ?_)
            | refine Wo.storeM ?_
            | refine Wo.row0 ?_
            | refine Wo.len ?_
            | refine Wo.pure ?_
            | refine Wo.shut ?_
            | refine Wo.shut' ?_
            | fail)
        | refine Wx.seq ?_
        | refine Wx.plain ?_
        | (guard_target =~ QX _ _ _ _ _ _ _ _
           first
            | refine Wq.normal ?_
            | refine Wq.exit ?_
            | refine Wq.ret ?_
            | refine Wb.normal ?_
            | refine Wb.hit ?_
            | refine Wb.miss ?_
            | refine Wb.ret ?_
            | refine Wl.ret ?_
            | refine Wl.normal ?_
            | fail)
        | refine Wx.yes ?_
        | refine Wx.no ?_
        | refine Wx.block ?_
        | refine Wx.exit ?_
        | refine Wx.ret ?_
        | refine Wx.skip ?_
        | refine Wx.scope ?_
        | refine Wx.still ?_
        | refine Wx.dyn ?_
        | fail)
      rw [deadR_nil h2.symm]
end Go.Vi.CYtdfhbmallnegfaa
