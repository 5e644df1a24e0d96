/-
  Which rules can never be done: the reference; lists that are alike.
-/
import Derived.Test.YtdfhbmallnegfaaCxS
import Derived.Test.YtdfhbmallnegfaaCxR
namespace Go.Vi.CYtdfhbmallnegfaa
open Go.Vi Go.Proofs Go.Proofs.Ytdfhbmallnegfaa
set_option linter.unusedVariables false
set_option maxHeartbeats 8000000
set_option maxRecDepth 100000
set_option linter.unusedSimpArgs false

theorem r_RDead (t : Tb) (ht : t.ok) (hR : right' t = true) (H : Hp) : Runs Try.prog pol 21 [.val (tbV t)] H ([deadR t], [], H) := by
  have hst := right_states hR
  have hlen : ((reach' t).map VV.bool).length = t.states.list.length := by rw [List.length_map, reach_lenD]
  refine Runs.told (fn := Try.f21) (n := 43) [(0, .val (tbV t))] [(0, .gone 0)] rfl Try.func21 rfl rfl (by kernel_rfl) rfl (by repeat' constructor) (by repeat' constructor) ?_
  repeat' (first
    | refine Wo.move ?_
    | refine Wo.assign ?_
    | refine Wo.nil ?_
    | refine Wo.nilD ?_
    | (guard_target =~ WX _ _ _ _ _ _ _ _ _ _ _ _
       first
        | refine Wo.lss (fun _ => ?_) (fun _ => ?_) <;> try (exfalso; omega)
        | refine Wo.leq (fun _ => ?_) (fun _ => ?_) <;> try (exfalso; omega)
        | refine Wo.gtr (fun _ => ?_) (fun _ => ?_) <;> try (exfalso; omega)
        | refine Wo.geq (fun _ => ?_) (fun _ => ?_) <;> try (exfalso; omega)
        | refine Wo.eql (fun _ => ?_) (fun _ => ?_) <;> try (exfalso; omega)
        | refine Wo.neq (fun _ => ?_) (fun _ => ?_) <;> try (exfalso; omega)
        | refine Wo.seq (fun _ => ?_) (fun _ => ?_)
        | refine Wo.sne (fun _ => ?_) (fun _ => ?_)
        | refine Wo.eqS (fun _ => ?_) (fun _ => ?_)
        | refine Wo.neS (fun _ => ?_) (fun _ => ?_)
        | refine Wo.add ?_
        | refine Wo.sub ?_
        | refine Wo.loadW ?_
        | refine Wo.loadSt ?_
        | refine Wo.load ?_
        | refine Wo.storeW ?_
        | refine Wo.store ?_
        | refine Wo.alloc (fun _ => ?_)
        | refine Wo.box (fun _ => ?_)
        | refine Wo.idxA ?_
        | refine Wo.idx (fun _ _ => ?_)
        | refine Wo.cutHi (fun _ _ => ?_)
        | refine Wo.cutLo (fun _ _ => ?_)
        | refine Wo.cutBoth (fun _ _ => ?_)
        | refine Wo.byteA ?_
        | refine Wo.byte (fun _ _ => ?_)
        | refine Wo.loadEw ?_
        | refine Wo.loadE ?_
        | refine Wo.loadL ?_
        | refine Wo.build ?_
        | refine Wo.clos ?_
        | refine Wo.idxO ?_
        | refine Wo.loadMA ?_
        | refine Wo.loadR ?_
        | refine Wo.loadM (fun _ _ => ?_)
        | refine Wo.row (sz := 1) (fun _ => ?_)
        | refine Wo.row (sz := 2) (fun _ => ?_)
        | refine Wo.row (sz := 4) (fun _ => ?_)
        | refine Wo.row (sz := 5) (fun _ => ?_)
        | refine Wo.makeB (fun _ => ?_)
        | refine Wo.makeI (fun _ => ?_)
        | refine Wo.cutO ?_
        | refine Wo.app1 (fun _ => ?_)
        | refine Wo.storeM ?_
        | refine Wo.row0 ?_
        | refine Wo.callO (r_RReach t ht hR) (fun _ => ?_)
        | refine Wo.len ?_
        | refine Wo.pure ?_
        | refine Wo.shut ?_
        | refine Wo.shut' ?_
        | fail)
    | refine Wx.seq ?_
    | refine Wx.plain ?_
    | (guard_target =~ QX _ _ _ _ _ _ _ _
       first
        | refine Wq.normal ?_
        | refine Wq.exit ?_
        | refine Wq.ret ?_
        | refine Wb.normal ?_
        | refine Wb.hit ?_
        | refine Wb.miss ?_
        | refine Wb.ret ?_
        | refine Wl.ret ?_
        | refine Wl.normal ?_
        | fail)
    | refine Wx.yes ?_
    | refine Wx.no ?_
    | refine Wx.block ?_
    | refine Wx.exit ?_
    | refine Wx.ret ?_
    | refine Wx.skip ?_
    | refine Wx.scope ?_
    | refine Wx.still ?_
    | refine Wx.dyn ?_
    | fail)
  rename_i g1 gR
  refine Wx.loop [1, 2, 3, 42] [1, 9] (fun (k, e, g, D, m) => [(5, .val (iv (k : Nat))), (4, bif e then .val .nils else .own 41 g 0 m 1)]) (fun (k, e, g, D, m) => [((bif e then 0 else 41), bif e then .gone 0 else .row g (D.map iv) 1 false)]) (fun (k, e, g, D, m) => (k ≤ t.rules.list.length ∧ m = D.length) ∧ D = deadL t k ∧ (e = true → D = []) ∧ (e = false → D ≠ [])) (fun (k, e, g, D, m) => t.rules.list.length - k) (0, true, 0, [], 0) ⟨⟨Nat.zero_le _, rfl⟩, rfl, fun _ => rfl, fun h => by cases h⟩ (fun a x y hG => ?_)
  obtain ⟨k, e, g, D, m⟩ := a
  obtain ⟨h1', h2, h3, h4⟩ := hG
  dsimp only [List.cons_append, List.nil_append]
  obtain ⟨h1, hm⟩ := h1'
  have hDl : D.length ≤ k := by rw [h2]; exact deadL_len
  rcases Nat.lt_or_ge k t.rules.list.length with hk | hk
  · cases e <;> dsimp only [cond]
    · repeat' (first
        | refine Wo.move ?_
        | refine Wo.assign ?_
        | refine Wo.nil ?_
        | refine Wo.nilD ?_
        | (guard_target =~ WX _ _ _ _ _ _ _ _ _ _ _ _
           first
            | refine Wo.lss (fun _ => ?_) (fun _ => ?_) <;> try (exfalso; omega)
            | refine Wo.leq (fun _ => ?_) (fun _ => ?_) <;> try (exfalso; omega)
            | refine Wo.gtr (fun _ => ?_) (fun _ => ?_) <;> try (exfalso; omega)
            | refine Wo.geq (fun _ => ?_) (fun _ => ?_) <;> try (exfalso; omega)
            | refine Wo.eql (fun _ => ?_) (fun _ => ?_) <;> try (exfalso; omega)
            | refine Wo.neq (fun _ => ?_) (fun _ => ?_) <;> try (exfalso; omega)
            | refine Wo.seq (fun _ => ?_) (fun _ => ?_)
            | refine Wo.sne (fun _ => ?_) (fun _ => ?_)
            | refine Wo.eqS (fun _ => ?_) (fun _ => ?_)
            | refine Wo.neS (fun _ => ?_) (fun _ => ?_)
            | refine Wo.add ?_
            | refine Wo.sub ?_
            | refine Wo.loadW ?_
            | refine Wo.loadSt ?_
            | refine Wo.load ?_
            | refine Wo.storeW ?_
            | refine Wo.store ?_
            | refine Wo.alloc (fun _ => ?_)
            | refine Wo.box (fun _ => ?_)
            | refine Wo.idxA ?_
            | refine Wo.idx (fun _ _ => ?_)
            | refine Wo.cutHi (fun _ _ => ?_)
            | refine Wo.cutLo (fun _ _ => ?_)
            | refine Wo.cutBoth (fun _ _ => ?_)
            | refine Wo.byteA ?_
            | refine Wo.byte (fun _ _ => ?_)
            | refine Wo.loadEw ?_
            | refine Wo.loadE ?_
            | refine Wo.loadL ?_
            | refine Wo.build ?_
            | refine Wo.clos ?_
            | refine Wo.idxO ?_
            | refine Wo.loadMA ?_
            | refine Wo.loadR ?_
            | refine Wo.loadM (fun _ _ => ?_)
            | refine Wo.row (sz := 1) (fun _ => ?_)
            | refine Wo.row (sz := 2) (fun _ => ?_)
            | refine Wo.row (sz := 4) (fun _ => ?_)
            | refine Wo.row (sz := 5) (fun _ => ?_)
            | refine Wo.makeB (fun _ => ?_)
            | refine Wo.makeI (fun _ => ?_)
            | refine Wo.cutO ?_
            | refine Wo.app1 (fun _ => ?_)
            | refine Wo.storeM ?_
            | refine Wo.row0 ?_
            | refine Wo.len ?_
            | refine Wo.pure ?_
            | refine Wo.shut ?_
            | refine Wo.shut' ?_
            | fail)
        | refine Wx.seq ?_
        | refine Wx.plain ?_
        | (guard_target =~ QX _ _ _ _ _ _ _ _
           first
            | refine Wq.normal ?_
            | refine Wq.exit ?_
            | refine Wq.ret ?_
            | refine Wb.normal ?_
            | refine Wb.hit ?_
            | refine Wb.miss ?_
            | refine Wb.ret ?_
            | refine Wl.ret ?_
            | refine Wl.normal ?_
            | fail)
        | refine Wx.yes ?_
        | refine Wx.no ?_
        | refine Wx.block ?_
        | refine Wx.exit ?_
        | refine Wx.ret ?_
        | refine Wx.skip ?_
        | refine Wx.scope ?_
        | refine Wx.still ?_
        | refine Wx.dyn ?_
        | fail)
      refine Wx.loop [1, 2, 3, 4, 5, 10, 11, 12, 13, 14, 15, 16, 36, 37, 38, 39, 40, 41, 42] [0, 1, 9, 40, 41] (fun (s, b) => [(7, .val (iv (s : Nat))), (6, .val (.bool b))]) (fun (s, b) => []) (fun (s, b) => s ≤ t.states.list.length ∧ b = anyTo t k s) (fun (s, b) => t.states.list.length - s) (0, false) ⟨Nat.zero_le _, rfl⟩ (fun a x y hG => ?_)
      obtain ⟨s, b⟩ := a
      obtain ⟨q1, q2⟩ := hG
      dsimp only [List.cons_append, List.nil_append]
      rcases Nat.lt_or_ge s t.states.list.length with hs | hs
      · obtain ⟨o, ho⟩ := at_some (show 0 + ((s : Nat) : Int).toNat < (reach' t).length by rw [reach_lenD]; omega)
        have ho' : (reach' t)[s]? = some o := by simpa using ho
        have hsu := anyTo_succ (n := k) ho'
        cases b with
        | true =>
          repeat' (first
            | refine Wo.move ?_
            | refine Wo.assign ?_
            | refine Wo.nil ?_
            | refine Wo.nilD ?_
            | (guard_target =~ WX _ _ _ _ _ _ _ _ _ _ _ _
               first
                | refine Wo.lss (fun _ => ?_) (fun _ => ?_) <;> try (exfalso; omega)
                | refine Wo.leq (fun _ => ?_) (fun _ => ?_) <;> try (exfalso; omega)
                | refine Wo.gtr (fun _ => ?_) (fun _ => ?_) <;> try (exfalso; omega)
                | refine Wo.geq (fun _ => ?_) (fun _ => ?_) <;> try (exfalso; omega)
                | refine Wo.eql (fun _ => ?_) (fun _ => ?_) <;> try (exfalso; omega)
                | refine Wo.neq (fun _ => ?_) (fun _ => ?_) <;> try (exfalso; omega)
                | refine Wo.seq (fun _ => ?_) (fun _ => ?_)
                | refine Wo.sne (fun _ => ?_) (fun _ => ?_)
                | refine Wo.eqS (fun _ => ?_) (fun _ => ?_)
                | refine Wo.neS (fun _ => ?_) (fun _ => ?_)
                | refine Wo.add ?_
                | refine Wo.sub ?_
                | refine Wo.loadW ?_
                | refine Wo.loadSt ?_
                | refine Wo.load ?_
                | refine Wo.storeW ?_
                | refine Wo.store ?_
                | refine Wo.alloc (fun _ => ?_)
                | refine Wo.box (fun _ => ?_)
                | refine Wo.idxA ?_
                | refine Wo.idx (fun _ _ => ?_)
                | refine Wo.cutHi (fun _ _ => ?_)
                | refine Wo.cutLo (fun _ _ => ?_)
                | refine Wo.cutBoth (fun _ _ => ?_)
                | refine Wo.byteA ?_
                | refine Wo.byte (fun _ _ => ?_)
                | refine Wo.loadEw ?_
                | refine Wo.loadE ?_
                | refine Wo.loadL ?_
                | refine Wo.build ?_
                | refine Wo.clos ?_
                | refine Wo.idxO ?_
                | refine Wo.loadMA ?_
                | refine Wo.loadR ?_
                | refine Wo.loadM (fun _ _ => ?_)
                | refine Wo.row (sz := 1) (fun _ => ?_)
                | refine Wo.row (sz := 2) (fun _ => ?_)
                | refine Wo.row (sz := 4) (fun _ => ?_)
                | refine Wo.row (sz := 5) (fun _ => ?_)
                | refine Wo.makeB (fun _ => ?_)
                | refine Wo.makeI (fun _ => ?_)
                | refine Wo.cutO ?_
                | refine Wo.app1 (fun _ => ?_)
                | refine Wo.storeM ?_
                | refine Wo.row0 ?_
                | refine Wo.len ?_
                | refine Wo.pure ?_
                | refine Wo.shut ?_
                | refine Wo.shut' ?_
                | fail)
            | refine Wx.seq ?_
            | refine Wx.plain ?_
            | (guard_target =~ QX _ _ _ _ _ _ _ _
               first
                | refine Wq.normal ?_
                | refine Wq.exit ?_
                | refine Wq.ret ?_
                | refine Wb.normal ?_
                | refine Wb.hit ?_
                | refine Wb.miss ?_
                | refine Wb.ret ?_
                | refine Wl.ret ?_
                | refine Wl.normal ?_
                | fail)
            | refine Wx.yes ?_
            | refine Wx.no ?_
            | refine Wx.block ?_
            | refine Wx.exit ?_
            | refine Wx.ret ?_
            | refine Wx.skip ?_
            | refine Wx.scope ?_
            | refine Wx.still ?_
            | refine Wx.dyn ?_
            | fail)
          exact Rd (s + 1, true) (by dsimp only; omega) ⟨by dsimp only; omega, by rw [hsu, ← q2]; simp⟩
        | false =>
          cases o with
          | false =>
            repeat' (first
              | refine Wo.move ?_
              | refine Wo.assign ?_
              | refine Wo.nil ?_
              | refine Wo.nilD ?_
              | (guard_target =~ WX _ _ _ _ _ _ _ _ _ _ _ _
                 first
                  | refine Wo.lss (fun _ => ?_) (fun _ => ?_) <;> try (exfalso; omega)
                  | refine Wo.leq (fun _ => ?_) (fun _ => ?_) <;> try (exfalso; omega)
                  | refine Wo.gtr (fun _ => ?_) (fun _ => ?_) <;> try (exfalso; omega)
                  | refine Wo.geq (fun _ => ?_) (fun _ => ?_) <;> try (exfalso; omega)
                  | refine Wo.eql (fun _ => ?_) (fun _ => ?_) <;> try (exfalso; omega)
                  | refine Wo.neq (fun _ => ?_) (fun _ => ?_) <;> try (exfalso; omega)
                  | refine Wo.seq (fun _ => ?_) (fun _ => ?_)
                  | refine Wo.sne (fun _ => ?_) (fun _ => ?_)
                  | refine Wo.eqS (fun _ => ?_) (fun _ => ?_)
                  | refine Wo.neS (fun _ => ?_) (fun _ => ?_)
                  | refine Wo.add ?_
                  | refine Wo.sub ?_
                  | refine Wo.loadW ?_
                  | refine Wo.loadSt ?_
                  | refine Wo.load ?_
                  | refine Wo.storeW ?_
                  | refine Wo.store ?_
                  | refine Wo.alloc (fun _ => ?_)
                  | refine Wo.box (fun _ => ?_)
                  | refine Wo.idxA ?_
                  | refine Wo.idx (fun _ _ => ?_)
                  | refine Wo.cutHi (fun _ _ => ?_)
                  | refine Wo.cutLo (fun _ _ => ?_)
                  | refine Wo.cutBoth (fun _ _ => ?_)
                  | refine Wo.byteA ?_
                  | refine Wo.byte (fun _ _ => ?_)
                  | refine Wo.loadEw ?_
                  | refine Wo.loadE ?_
                  | refine Wo.loadL ?_
                  | refine Wo.build ?_
                  | refine Wo.clos ?_
                  | refine Wo.idxO ?_
                  | refine Wo.loadMA ?_
                  | refine Wo.loadR ?_
                  | refine Wo.loadM (fun _ _ => ?_)
                  | refine Wo.row (sz := 1) (fun _ => ?_)
                  | refine Wo.row (sz := 2) (fun _ => ?_)
                  | refine Wo.row (sz := 4) (fun _ => ?_)
                  | refine Wo.row (sz := 5) (fun _ => ?_)
                  | refine Wo.makeB (fun _ => ?_)
                  | refine Wo.makeI (fun _ => ?_)
                  | refine Wo.cutO ?_
                  | refine Wo.app1 (fun _ => ?_)
                  | refine Wo.storeM ?_
                  | refine Wo.row0 ?_
                  | refine Wo.len ?_
                  | refine Wo.pure ?_
                  | refine Wo.shut ?_
                  | refine Wo.shut' ?_
                  | fail)
              | refine Wx.seq ?_
              | refine Wx.plain ?_
              | (guard_target =~ QX _ _ _ _ _ _ _ _
                 first
                  | refine Wq.normal ?_
                  | refine Wq.exit ?_
                  | refine Wq.ret ?_
                  | refine Wb.normal ?_
                  | refine Wb.hit ?_
                  | refine Wb.miss ?_
                  | refine Wb.ret ?_
                  | refine Wl.ret ?_
                  | refine Wl.normal ?_
                  | fail)
              | refine Wx.yes ?_
              | refine Wx.no ?_
              | refine Wx.block ?_
              | refine Wx.exit ?_
              | refine Wx.ret ?_
              | refine Wx.skip ?_
              | refine Wx.scope ?_
              | refine Wx.still ?_
              | refine Wx.dyn ?_
              | fail)
            exact Rd (s + 1, false) (by dsimp only; omega) ⟨by dsimp only; omega, by rw [hsu, ← q2]; simp⟩
          | true =>
            repeat' (first
              | refine Wo.move ?_
              | refine Wo.assign ?_
              | refine Wo.nil ?_
              | refine Wo.nilD ?_
              | (guard_target =~ WX _ _ _ _ _ _ _ _ _ _ _ _
                 first
                  | refine Wo.lss (fun _ => ?_) (fun _ => ?_) <;> try (exfalso; omega)
                  | refine Wo.leq (fun _ => ?_) (fun _ => ?_) <;> try (exfalso; omega)
                  | refine Wo.gtr (fun _ => ?_) (fun _ => ?_) <;> try (exfalso; omega)
                  | refine Wo.geq (fun _ => ?_) (fun _ => ?_) <;> try (exfalso; omega)
                  | refine Wo.eql (fun _ => ?_) (fun _ => ?_) <;> try (exfalso; omega)
                  | refine Wo.neq (fun _ => ?_) (fun _ => ?_) <;> try (exfalso; omega)
                  | refine Wo.seq (fun _ => ?_) (fun _ => ?_)
                  | refine Wo.sne (fun _ => ?_) (fun _ => ?_)
                  | refine Wo.eqS (fun _ => ?_) (fun _ => ?_)
                  | refine Wo.neS (fun _ => ?_) (fun _ => ?_)
                  | refine Wo.add ?_
                  | refine Wo.sub ?_
                  | refine Wo.loadW ?_
                  | refine Wo.loadSt ?_
                  | refine Wo.load ?_
                  | refine Wo.storeW ?_
                  | refine Wo.store ?_
                  | refine Wo.alloc (fun _ => ?_)
                  | refine Wo.box (fun _ => ?_)
                  | refine Wo.idxA ?_
                  | refine Wo.idx (fun _ _ => ?_)
                  | refine Wo.cutHi (fun _ _ => ?_)
                  | refine Wo.cutLo (fun _ _ => ?_)
                  | refine Wo.cutBoth (fun _ _ => ?_)
                  | refine Wo.byteA ?_
                  | refine Wo.byte (fun _ _ => ?_)
                  | refine Wo.loadEw ?_
                  | refine Wo.loadE ?_
                  | refine Wo.loadL ?_
                  | refine Wo.build ?_
                  | refine Wo.clos ?_
                  | refine Wo.idxO ?_
                  | refine Wo.loadMA ?_
                  | refine Wo.loadR ?_
                  | refine Wo.loadM (fun _ _ => ?_)
                  | refine Wo.row (sz := 1) (fun _ => ?_)
                  | refine Wo.row (sz := 2) (fun _ => ?_)
                  | refine Wo.row (sz := 4) (fun _ => ?_)
                  | refine Wo.row (sz := 5) (fun _ => ?_)
                  | refine Wo.makeB (fun _ => ?_)
                  | refine Wo.makeI (fun _ => ?_)
                  | refine Wo.cutO ?_
                  | refine Wo.app1 (fun _ => ?_)
                  | refine Wo.storeM ?_
                  | refine Wo.row0 ?_
                  | refine Wo.callB (r_RFor t k s ht) (fun _ => ?_) (fun _ => ?_)
                  | refine Wo.len ?_
                  | refine Wo.pure ?_
                  | refine Wo.shut ?_
                  | refine Wo.shut' ?_
                  | fail)
              | refine Wx.seq ?_
              | refine Wx.plain ?_
              | (guard_target =~ QX _ _ _ _ _ _ _ _
                 first
                  | refine Wq.normal ?_
                  | refine Wq.exit ?_
                  | refine Wq.ret ?_
                  | refine Wb.normal ?_
                  | refine Wb.hit ?_
                  | refine Wb.miss ?_
                  | refine Wb.ret ?_
                  | refine Wl.ret ?_
                  | refine Wl.normal ?_
                  | fail)
              | refine Wx.yes ?_
              | refine Wx.no ?_
              | refine Wx.block ?_
              | refine Wx.exit ?_
              | refine Wx.ret ?_
              | refine Wx.skip ?_
              | refine Wx.scope ?_
              | refine Wx.still ?_
              | refine Wx.dyn ?_
              | fail)
            · have hf : for' t k s = true := by assumption
              exact Rd (s + 1, true) (by dsimp only; omega) ⟨by dsimp only; omega, by rw [hsu, hf]; simp⟩
            · have hf : for' t k s = false := by assumption
              exact Rd (s + 1, false) (by dsimp only; omega) ⟨by dsimp only; omega, by rw [hsu, hf, ← q2]; simp⟩
      · have hss : s = t.states.list.length := by omega
        subst hss
        have hdb : deadB t k = !b := by unfold deadB; rw [← q2]
        cases b
        · repeat' (first
            | refine Wo.move ?_
            | refine Wo.assign ?_
            | refine Wo.nil ?_
            | refine Wo.nilD ?_
            | (guard_target =~ WX _ _ _ _ _ _ _ _ _ _ _ _
               first
                | refine Wo.lss (fun _ => ?_) (fun _ => ?_) <;> try (exfalso; omega)
                | refine Wo.leq (fun _ => ?_) (fun _ => ?_) <;> try (exfalso; omega)
                | refine Wo.gtr (fun _ => ?_) (fun _ => ?_) <;> try (exfalso; omega)
                | refine Wo.geq (fun _ => ?_) (fun _ => ?_) <;> try (exfalso; omega)
                | refine Wo.eql (fun _ => ?_) (fun _ => ?_) <;> try (exfalso; omega)
                | refine Wo.neq (fun _ => ?_) (fun _ => ?_) <;> try (exfalso; omega)
                | refine Wo.seq (fun _ => ?_) (fun _ => ?_)
                | refine Wo.sne (fun _ => ?_) (fun _ => ?_)
                | refine Wo.eqS (fun _ => ?_) (fun _ => ?_)
                | refine Wo.neS (fun _ => ?_) (fun _ => ?_)
                | refine Wo.add ?_
                | refine Wo.sub ?_
                | refine Wo.loadW ?_
                | refine Wo.loadSt ?_
                | refine Wo.load ?_
                | refine Wo.storeW ?_
                | refine Wo.store ?_
                | refine Wo.alloc (fun _ => ?_)
                | refine Wo.box (fun _ => ?_)
                | refine Wo.idxA ?_
                | refine Wo.idx (fun _ _ => ?_)
                | refine Wo.cutHi (fun _ _ => ?_)
                | refine Wo.cutLo (fun _ _ => ?_)
                | refine Wo.cutBoth (fun _ _ => ?_)
                | refine Wo.byteA ?_
                | refine Wo.byte (fun _ _ => ?_)
                | refine Wo.loadEw ?_
                | refine Wo.loadE ?_
                | refine Wo.loadL ?_
                | refine Wo.build ?_
                | refine Wo.clos ?_
                | refine Wo.idxO ?_
                | refine Wo.loadMA ?_
                | refine Wo.loadR ?_
                | refine Wo.loadM (fun _ _ => ?_)
                | refine Wo.row (sz := 1) (fun _ => ?_)
                | refine Wo.row (sz := 2) (fun _ => ?_)
                | refine Wo.row (sz := 4) (fun _ => ?_)
                | refine Wo.row (sz := 5) (fun _ => ?_)
                | refine Wo.makeB (fun _ => ?_)
                | refine Wo.makeI (fun _ => ?_)
                | refine Wo.cutO ?_
                | refine Wo.app1 (fun _ => ?_)
                | refine Wo.storeM ?_
                | refine Wo.row0 ?_
                | refine Wo.len ?_
                | refine Wo.pure ?_
                | refine Wo.shut ?_
                | refine Wo.shut' ?_
                | fail)
            | refine Wx.seq ?_
            | refine Wx.plain ?_
            | (guard_target =~ QX _ _ _ _ _ _ _ _
               first
                | refine Wq.normal ?_
                | refine Wq.exit ?_
                | refine Wq.ret ?_
                | refine Wb.normal ?_
                | refine Wb.hit ?_
                | refine Wb.miss ?_
                | refine Wb.ret ?_
                | refine Wl.ret ?_
                | refine Wl.normal ?_
                | fail)
            | refine Wx.yes ?_
            | refine Wx.no ?_
            | refine Wx.block ?_
            | refine Wx.exit ?_
            | refine Wx.ret ?_
            | refine Wx.skip ?_
            | refine Wx.scope ?_
            | refine Wx.still ?_
            | refine Wx.dyn ?_
            | fail)
          exact Rd (k + 1, false, _, D.take m ++ [(k : Int)], m + 1) (by dsimp only; omega) ⟨⟨by dsimp only; omega, by dsimp only; rw [List.length_append, List.length_take, List.length_singleton]; omega⟩, by rw [deadL_succ, hdb, List.take_of_length_le (by omega), h2]; simp, (fun h => by cases h), fun _ => by simp⟩
        · repeat' (first
            | refine Wo.move ?_
            | refine Wo.assign ?_
            | refine Wo.nil ?_
            | refine Wo.nilD ?_
            | (guard_target =~ WX _ _ _ _ _ _ _ _ _ _ _ _
               first
                | refine Wo.lss (fun _ => ?_) (fun _ => ?_) <;> try (exfalso; omega)
                | refine Wo.leq (fun _ => ?_) (fun _ => ?_) <;> try (exfalso; omega)
                | refine Wo.gtr (fun _ => ?_) (fun _ => ?_) <;> try (exfalso; omega)
                | refine Wo.geq (fun _ => ?_) (fun _ => ?_) <;> try (exfalso; omega)
                | refine Wo.eql (fun _ => ?_) (fun _ => ?_) <;> try (exfalso; omega)
                | refine Wo.neq (fun _ => ?_) (fun _ => ?_) <;> try (exfalso; omega)
                | refine Wo.seq (fun _ => ?_) (fun _ => ?_)
                | refine Wo.sne (fun _ => ?_) (fun _ => ?_)
                | refine Wo.eqS (fun _ => ?_) (fun _ => ?_)
                | refine Wo.neS (fun _ => ?_) (fun _ => ?_)
                | refine Wo.add ?_
                | refine Wo.sub ?_
                | refine Wo.loadW ?_
                | refine Wo.loadSt ?_
                | refine Wo.load ?_
                | refine Wo.storeW ?_
                | refine Wo.store ?_
                | refine Wo.alloc (fun _ => ?_)
                | refine Wo.box (fun _ => ?_)
                | refine Wo.idxA ?_
                | refine Wo.idx (fun _ _ => ?_)
                | refine Wo.cutHi (fun _ _ => ?_)
                | refine Wo.cutLo (fun _ _ => ?_)
                | refine Wo.cutBoth (fun _ _ => ?_)
                | refine Wo.byteA ?_
                | refine Wo.byte (fun _ _ => ?_)
                | refine Wo.loadEw ?_
                | refine Wo.loadE ?_
                | refine Wo.loadL ?_
                | refine Wo.build ?_
                | refine Wo.clos ?_
                | refine Wo.idxO ?_
                | refine Wo.loadMA ?_
                | refine Wo.loadR ?_
                | refine Wo.loadM (fun _ _ => ?_)
                | refine Wo.row (sz := 1) (fun _ => ?_)
                | refine Wo.row (sz := 2) (fun _ => ?_)
                | refine Wo.row (sz := 4) (fun _ => ?_)
                | refine Wo.row (sz := 5) (fun _ => ?_)
                | refine Wo.makeB (fun _ => ?_)
                | refine Wo.makeI (fun _ => ?_)
                | refine Wo.cutO ?_
                | refine Wo.app1 (fun _ => ?_)
                | refine Wo.storeM ?_
                | refine Wo.row0 ?_
                | refine Wo.len ?_
                | refine Wo.pure ?_
                | refine Wo.shut ?_
                | refine Wo.shut' ?_
                | fail)
            | refine Wx.seq ?_
            | refine Wx.plain ?_
            | (guard_target =~ QX _ _ _ _ _ _ _ _
               first
                | refine Wq.normal ?_
                | refine Wq.exit ?_
                | refine Wq.ret ?_
                | refine Wb.normal ?_
                | refine Wb.hit ?_
                | refine Wb.miss ?_
                | refine Wb.ret ?_
                | refine Wl.ret ?_
                | refine Wl.normal ?_
                | fail)
            | refine Wx.yes ?_
            | refine Wx.no ?_
            | refine Wx.block ?_
            | refine Wx.exit ?_
            | refine Wx.ret ?_
            | refine Wx.skip ?_
            | refine Wx.scope ?_
            | refine Wx.still ?_
            | refine Wx.dyn ?_
            | fail)
          exact Rd (k + 1, false, g, D, m) (by dsimp only; omega) ⟨⟨by dsimp only; omega, hm⟩, by rw [deadL_succ, hdb, h2]; simp, h3, h4⟩
    · repeat' (first
        | refine Wo.move ?_
        | refine Wo.assign ?_
        | refine Wo.nil ?_
        | refine Wo.nilD ?_
        | (guard_target =~ WX _ _ _ _ _ _ _ _ _ _ _ _
           first
            | refine Wo.lss (fun _ => ?_) (fun _ => ?_) <;> try (exfalso; omega)
            | refine Wo.leq (fun _ => ?_) (fun _ => ?_) <;> try (exfalso; omega)
            | refine Wo.gtr (fun _ => ?_) (fun _ => ?_) <;> try (exfalso; omega)
            | refine Wo.geq (fun _ => ?_) (fun _ => ?_) <;> try (exfalso; omega)
            | refine Wo.eql (fun _ => ?_) (fun _ => ?_) <;> try (exfalso; omega)
            | refine Wo.neq (fun _ => ?_) (fun _ => ?_) <;> try (exfalso; omega)
            | refine Wo.seq (fun _ => ?_) (fun _ => ?_)
            | refine Wo.sne (fun _ => ?_) (fun _ => ?_)
            | refine Wo.eqS (fun _ => ?_) (fun _ => ?_)
            | refine Wo.neS (fun _ => ?_) (fun _ => ?_)
            | refine Wo.add ?_
            | refine Wo.sub ?_
            | refine Wo.loadW ?_
            | refine Wo.loadSt ?_
            | refine Wo.load ?_
            | refine Wo.storeW ?_
            | refine Wo.store ?_
            | refine Wo.alloc (fun _ => ?_)
            | refine Wo.box (fun _ => ?_)
            | refine Wo.idxA ?_
            | refine Wo.idx (fun _ _ => ?_)
            | refine Wo.cutHi (fun _ _ => ?_)
            | refine Wo.cutLo (fun _ _ => ?_)
            | refine Wo.cutBoth (fun _ _ => ?_)
            | refine Wo.byteA ?_
            | refine Wo.byte (fun _ _ => ?_)
            | refine Wo.loadEw ?_
            | refine Wo.loadE ?_
            | refine Wo.loadL ?_
            | refine Wo.build ?_
            | refine Wo.clos ?_
            | refine Wo.idxO ?_
            | refine Wo.loadMA ?_
            | refine Wo.loadR ?_
            | refine Wo.loadM (fun _ _ => ?_)
            | refine Wo.row (sz := 1) (fun _ => ?_)
            | refine Wo.row (sz := 2) (fun _ => ?_)
            | refine Wo.row (sz := 4) (fun _ => ?_)
            | refine Wo.row (sz := 5) (fun _ => ?_)
            | refine Wo.makeB (fun _ => ?_)
            | refine Wo.makeI (fun _ => ?_)
            | refine Wo.cutO ?_
            | refine Wo.app1 (fun _ => ?_)
            | refine Wo.storeM ?_
            | refine Wo.row0 ?_
            | refine Wo.len ?_
            | refine Wo.pure ?_
            | refine Wo.shut ?_
            | refine Wo.shut' ?_
            | fail)
        | refine Wx.seq ?_
        | refine Wx.plain ?_
        | (guard_target =~ QX _ _ _ _ _ _ _ _
           first
            | refine Wq.normal ?_
            | refine Wq.exit ?_
            | refine Wq.ret ?_
            | refine Wb.normal ?_
            | refine Wb.hit ?_
            | refine Wb.miss ?_
            | refine Wb.ret ?_
            | refine Wl.ret ?_
            | refine Wl.normal ?_
            | fail)
        | refine Wx.yes ?_
        | refine Wx.no ?_
        | refine Wx.block ?_
        | refine Wx.exit ?_
        | refine Wx.ret ?_
        | refine Wx.skip ?_
        | refine Wx.scope ?_
        | refine Wx.still ?_
        | refine Wx.dyn ?_
        | fail)
      refine Wx.loop [1, 2, 3, 4, 5, 10, 11, 12, 13, 14, 15, 16, 36, 37, 38, 39, 40, 41, 42] [0, 1, 9, 40, 41] (fun (s, b) => [(7, .val (iv (s : Nat))), (6, .val (.bool b))]) (fun (s, b) => []) (fun (s, b) => s ≤ t.states.list.length ∧ b = anyTo t k s) (fun (s, b) => t.states.list.length - s) (0, false) ⟨Nat.zero_le _, rfl⟩ (fun a x y hG => ?_)
      obtain ⟨s, b⟩ := a
      obtain ⟨q1, q2⟩ := hG
      dsimp only [List.cons_append, List.nil_append]
      rcases Nat.lt_or_ge s t.states.list.length with hs | hs
      · obtain ⟨o, ho⟩ := at_some (show 0 + ((s : Nat) : Int).toNat < (reach' t).length by rw [reach_lenD]; omega)
        have ho' : (reach' t)[s]? = some o := by simpa using ho
        have hsu := anyTo_succ (n := k) ho'
        cases b with
        | true =>
          repeat' (first
            | refine Wo.move ?_
            | refine Wo.assign ?_
            | refine Wo.nil ?_
            | refine Wo.nilD ?_
            | (guard_target =~ WX _ _ _ _ _ _ _ _ _ _ _ _
               first
                | refine Wo.lss (fun _ => ?_) (fun _ => ?_) <;> try (exfalso; omega)
                | refine Wo.leq (fun _ => ?_) (fun _ => ?_) <;> try (exfalso; omega)
                | refine Wo.gtr (fun _ => ?_) (fun _ => ?_) <;> try (exfalso; omega)
                | refine Wo.geq (fun _ => ?_) (fun _ => ?_) <;> try (exfalso; omega)
                | refine Wo.eql (fun _ => ?_) (fun _ => ?_) <;> try (exfalso; omega)
                | refine Wo.neq (fun _ => ?_) (fun _ => ?_) <;> try (exfalso; omega)
                | refine Wo.seq (fun _ => ?_) (fun _ => ?_)
                | refine Wo.sne (fun _ => ?_) (fun _ => ?_)
                | refine Wo.eqS (fun _ => ?_) (fun _ => ?_)
                | refine Wo.neS (fun _ => ?_) (fun _ => ?_)
                | refine Wo.add ?_
                | refine Wo.sub ?_
                | refine Wo.loadW ?_
                | refine Wo.loadSt ?_
                | refine Wo.load ?_
                | refine Wo.storeW ?_
                | refine Wo.store ?_
                | refine Wo.alloc (fun _ => ?_)
                | refine Wo.box (fun _ => ?_)
                | refine Wo.idxA ?_
                | refine Wo.idx (fun _ _ => ?_)
                | refine Wo.cutHi (fun _ _ => ?_)
                | refine Wo.cutLo (fun _ _ => ?_)
                | refine Wo.cutBoth (fun _ _ => ?_)
                | refine Wo.byteA ?_
                | refine Wo.byte (fun _ _ => ?_)
                | refine Wo.loadEw ?_
                | refine Wo.loadE ?_
                | refine Wo.loadL ?_
                | refine Wo.build ?_
                | refine Wo.clos ?_
                | refine Wo.idxO ?_
                | refine Wo.loadMA ?_
                | refine Wo.loadR ?_
                | refine Wo.loadM (fun _ _ => ?_)
                | refine Wo.row (sz := 1) (fun _ => ?_)
                | refine Wo.row (sz := 2) (fun _ => ?_)
                | refine Wo.row (sz := 4) (fun _ => ?_)
                | refine Wo.row (sz := 5) (fun _ => ?_)
                | refine Wo.makeB (fun _ => ?_)
                | refine Wo.makeI (fun _ => ?_)
                | refine Wo.cutO ?_
                | refine Wo.app1 (fun _ => ?_)
                | refine Wo.storeM ?_
                | refine Wo.row0 ?_
                | refine Wo.len ?_
                | refine Wo.pure ?_
                | refine Wo.shut ?_
                | refine Wo.shut' ?_
                | fail)
            | refine Wx.seq ?_
            | refine Wx.plain ?_
            | (guard_target =~ QX _ _ _ _ _ _ _ _
               first
                | refine Wq.normal ?_
                | refine Wq.exit ?_
                | refine Wq.ret ?_
                | refine Wb.normal ?_
                | refine Wb.hit ?_
                | refine Wb.miss ?_
                | refine Wb.ret ?_
                | refine Wl.ret ?_
                | refine Wl.normal ?_
                | fail)
            | refine Wx.yes ?_
            | refine Wx.no ?_
            | refine Wx.block ?_
            | refine Wx.exit ?_
            | refine Wx.ret ?_
            | refine Wx.skip ?_
            | refine Wx.scope ?_
            | refine Wx.still ?_
            | refine Wx.dyn ?_
            | fail)
          exact Rd (s + 1, true) (by dsimp only; omega) ⟨by dsimp only; omega, by rw [hsu, ← q2]; simp⟩
        | false =>
          cases o with
          | false =>
            repeat' (first
              | refine Wo.move ?_
              | refine Wo.assign ?_
              | refine Wo.nil ?_
              | refine Wo.nilD ?_
              | (guard_target =~ WX _ _ _ _ _ _ _ _ _ _ _ _
                 first
                  | refine Wo.lss (fun _ => ?_) (fun _ => ?_) <;> try (exfalso; omega)
                  | refine Wo.leq (fun _ => ?_) (fun _ => ?_) <;> try (exfalso; omega)
                  | refine Wo.gtr (fun _ => ?_) (fun _ => ?_) <;> try (exfalso; omega)
                  | refine Wo.geq (fun _ => ?_) (fun _ => ?_) <;> try (exfalso; omega)
                  | refine Wo.eql (fun _ => ?_) (fun _ => ?_) <;> try (exfalso; omega)
                  | refine Wo.neq (fun _ => ?_) (fun _ => ?_) <;> try (exfalso; omega)
                  | refine Wo.seq (fun _ => ?_) (fun _ => ?_)
                  | refine Wo.sne (fun _ => ?_) (fun _ => ?_)
                  | refine Wo.eqS (fun _ => ?_) (fun _ => ?_)
                  | refine Wo.neS (fun _ => ?_) (fun _ => ?_)
                  | refine Wo.add ?_
                  | refine Wo.sub ?_
                  | refine Wo.loadW ?_
                  | refine Wo.loadSt ?_
                  | refine Wo.load ?_
                  | refine Wo.storeW ?_
                  | refine Wo.store ?_
                  | refine Wo.alloc (fun _ => ?_)
                  | refine Wo.box (fun _ => ?_)
                  | refine Wo.idxA ?_
                  | refine Wo.idx (fun _ _ => ?_)
                  | refine Wo.cutHi (fun _ _ => ?_)
                  | refine Wo.cutLo (fun _ _ => ?_)
                  | refine Wo.cutBoth (fun _ _ => ?_)
                  | refine Wo.byteA ?_
                  | refine Wo.byte (fun _ _ => ?_)
                  | refine Wo.loadEw ?_
                  | refine Wo.loadE ?_
                  | refine Wo.loadL ?_
                  | refine Wo.build ?_
                  | refine Wo.clos ?_
                  | refine Wo.idxO ?_
                  | refine Wo.loadMA ?_
                  | refine Wo.loadR ?_
                  | refine Wo.loadM (fun _ _ => ?_)
                  | refine Wo.row (sz := 1) (fun _ => ?_)
                  | refine Wo.row (sz := 2) (fun _ => ?_)
                  | refine Wo.row (sz := 4) (fun _ => ?_)
                  | refine Wo.row (sz := 5) (fun _ => ?_)
                  | refine Wo.makeB (fun _ => ?_)
                  | refine Wo.makeI (fun _ => ?_)
                  | refine Wo.cutO ?_
                  | refine Wo.app1 (fun _ => ?_)
                  | refine Wo.storeM ?_
                  | refine Wo.row0 ?_
                  | refine Wo.len ?_
                  | refine Wo.pure ?_
                  | refine Wo.shut ?_
                  | refine Wo.shut' ?_
                  | fail)
              | refine Wx.seq ?_
              | refine Wx.plain ?_
              | (guard_target =~ QX _ _ _ _ _ _ _ _
                 first
                  | refine Wq.normal ?_
                  | refine Wq.exit ?_
                  | refine Wq.ret ?_
                  | refine Wb.normal ?_
                  | refine Wb.hit ?_
                  | refine Wb.miss ?_
                  | refine Wb.ret ?_
                  | refine Wl.ret ?_
                  | refine Wl.normal ?_
                  | fail)
              | refine Wx.yes ?_
              | refine Wx.no ?_
              | refine Wx.block ?_
              | refine Wx.exit ?_
              | refine Wx.ret ?_
              | refine Wx.skip ?_
              | refine Wx.scope ?_
              | refine Wx.still ?_
              | refine Wx.dyn ?_
              | fail)
            exact Rd (s + 1, false) (by dsimp only; omega) ⟨by dsimp only; omega, by rw [hsu, ← q2]; simp⟩
          | true =>
            repeat' (first
              | refine Wo.move ?_
              | refine Wo.assign ?_
              | refine Wo.nil ?_
              | refine Wo.nilD ?_
              | (guard_target =~ WX _ _ _ _ _ _ _ _ _ _ _ _
                 first
                  | refine Wo.lss (fun _ => ?_) (fun _ => ?_) <;> try (exfalso; omega)
                  | refine Wo.leq (fun _ => ?_) (fun _ => ?_) <;> try (exfalso; omega)
                  | refine Wo.gtr (fun _ => ?_) (fun _ => ?_) <;> try (exfalso; omega)
                  | refine Wo.geq (fun _ => ?_) (fun _ => ?_) <;> try (exfalso; omega)
                  | refine Wo.eql (fun _ => ?_) (fun _ => ?_) <;> try (exfalso; omega)
                  | refine Wo.neq (fun _ => ?_) (fun _ => ?_) <;> try (exfalso; omega)
                  | refine Wo.seq (fun _ => ?_) (fun _ => ?_)
                  | refine Wo.sne (fun _ => ?_) (fun _ => ?_)
                  | refine Wo.eqS (fun _ => ?_) (fun _ => ?_)
                  | refine Wo.neS (fun _ => ?_) (fun _ => ?_)
                  | refine Wo.add ?_
                  | refine Wo.sub ?_
                  | refine Wo.loadW ?_
                  | refine Wo.loadSt ?_
                  | refine Wo.load ?_
                  | refine Wo.storeW ?_
                  | refine Wo.store ?_
                  | refine Wo.alloc (fun _ => ?_)
                  | refine Wo.box (fun _ => ?_)
                  | refine Wo.idxA ?_
                  | refine Wo.idx (fun _ _ => ?_)
                  | refine Wo.cutHi (fun _ _ => ?_)
                  | refine Wo.cutLo (fun _ _ => ?_)
                  | refine Wo.cutBoth (fun _ _ => ?_)
                  | refine Wo.byteA ?_
                  | refine Wo.byte (fun _ _ => ?_)
                  | refine Wo.loadEw ?_
                  | refine Wo.loadE ?_
                  | refine Wo.loadL ?_
                  | refine Wo.build ?_
                  | refine Wo.clos ?_
                  | refine Wo.idxO ?_
                  | refine Wo.loadMA ?_
                  | refine Wo.loadR ?_
                  | refine Wo.loadM (fun _ _ => ?_)
                  | refine Wo.row (sz := 1) (fun _ => ?_)
                  | refine Wo.row (sz := 2) (fun _ => ?_)
                  | refine Wo.row (sz := 4) (fun _ => ?_)
                  | refine Wo.row (sz := 5) (fun _ => ?_)
                  | refine Wo.makeB (fun _ => ?_)
                  | refine Wo.makeI (fun _ => ?_)
                  | refine Wo.cutO ?_
                  | refine Wo.app1 (fun _ => ?_)
                  | refine Wo.storeM ?_
                  | refine Wo.row0 ?_
                  | refine Wo.callB (r_RFor t k s ht) (fun _ => ?_) (fun _ => ?_)
                  | refine Wo.len ?_
                  | refine Wo.pure ?_
                  | refine Wo.shut ?_
                  | refine Wo.shut' ?_
                  | fail)
              | refine Wx.seq ?_
              | refine Wx.plain ?_
              | (guard_target =~ QX _ _ _ _ _ _ _ _
                 first
                  | refine Wq.normal ?_
                  | refine Wq.exit ?_
                  | refine Wq.ret ?_
                  | refine Wb.normal ?_
                  | refine Wb.hit ?_
                  | refine Wb.miss ?_
                  | refine Wb.ret ?_
                  | refine Wl.ret ?_
                  | refine Wl.normal ?_
                  | fail)
              | refine Wx.yes ?_
              | refine Wx.no ?_
              | refine Wx.block ?_
              | refine Wx.exit ?_
              | refine Wx.ret ?_
              | refine Wx.skip ?_
              | refine Wx.scope ?_
              | refine Wx.still ?_
              | refine Wx.dyn ?_
              | fail)
            · have hf : for' t k s = true := by assumption
              exact Rd (s + 1, true) (by dsimp only; omega) ⟨by dsimp only; omega, by rw [hsu, hf]; simp⟩
            · have hf : for' t k s = false := by assumption
              exact Rd (s + 1, false) (by dsimp only; omega) ⟨by dsimp only; omega, by rw [hsu, hf, ← q2]; simp⟩
      · have hss : s = t.states.list.length := by omega
        subst hss
        have hdb : deadB t k = !b := by unfold deadB; rw [← q2]
        cases b
        · have hD := h3 rfl
          subst hD
          repeat' (first
            | refine Wo.move ?_
            | refine Wo.assign ?_
            | refine Wo.nil ?_
            | refine Wo.nilD ?_
            | (guard_target =~ WX _ _ _ _ _ _ _ _ _ _ _ _
               first
                | refine Wo.lss (fun _ => ?_) (fun _ => ?_) <;> try (exfalso; omega)
                | refine Wo.leq (fun _ => ?_) (fun _ => ?_) <;> try (exfalso; omega)
                | refine Wo.gtr (fun _ => ?_) (fun _ => ?_) <;> try (exfalso; omega)
                | refine Wo.geq (fun _ => ?_) (fun _ => ?_) <;> try (exfalso; omega)
                | refine Wo.eql (fun _ => ?_) (fun _ => ?_) <;> try (exfalso; omega)
                | refine Wo.neq (fun _ => ?_) (fun _ => ?_) <;> try (exfalso; omega)
                | refine Wo.seq (fun _ => ?_) (fun _ => ?_)
                | refine Wo.sne (fun _ => ?_) (fun _ => ?_)
                | refine Wo.eqS (fun _ => ?_) (fun _ => ?_)
                | refine Wo.neS (fun _ => ?_) (fun _ => ?_)
                | refine Wo.add ?_
                | refine Wo.sub ?_
                | refine Wo.loadW ?_
                | refine Wo.loadSt ?_
                | refine Wo.load ?_
                | refine Wo.storeW ?_
                | refine Wo.store ?_
                | refine Wo.alloc (fun _ => ?_)
                | refine Wo.box (fun _ => ?_)
                | refine Wo.idxA ?_
                | refine Wo.idx (fun _ _ => ?_)
                | refine Wo.cutHi (fun _ _ => ?_)
                | refine Wo.cutLo (fun _ _ => ?_)
                | refine Wo.cutBoth (fun _ _ => ?_)
                | refine Wo.byteA ?_
                | refine Wo.byte (fun _ _ => ?_)
                | refine Wo.loadEw ?_
                | refine Wo.loadE ?_
                | refine Wo.loadL ?_
                | refine Wo.build ?_
                | refine Wo.clos ?_
                | refine Wo.idxO ?_
                | refine Wo.loadMA ?_
                | refine Wo.loadR ?_
                | refine Wo.loadM (fun _ _ => ?_)
                | refine Wo.row (sz := 1) (fun _ => ?_)
                | refine Wo.row (sz := 2) (fun _ => ?_)
                | refine Wo.row (sz := 4) (fun _ => ?_)
                | refine Wo.row (sz := 5) (fun _ => ?_)
                | refine Wo.makeB (fun _ => ?_)
                | refine Wo.makeI (fun _ => ?_)
                | refine Wo.cutO ?_
                | refine Wo.app1 (fun _ => ?_)
                | refine Wo.storeM ?_
                | refine Wo.row0 ?_
                | refine Wo.app1n (enc := iv) (fun _ => rfl) (fun _ => ?_)
                | refine Wo.len ?_
                | refine Wo.pure ?_
                | refine Wo.shut ?_
                | refine Wo.shut' ?_
                | fail)
            | refine Wx.seq ?_
            | refine Wx.plain ?_
            | (guard_target =~ QX _ _ _ _ _ _ _ _
               first
                | refine Wq.normal ?_
                | refine Wq.exit ?_
                | refine Wq.ret ?_
                | refine Wb.normal ?_
                | refine Wb.hit ?_
                | refine Wb.miss ?_
                | refine Wb.ret ?_
                | refine Wl.ret ?_
                | refine Wl.normal ?_
                | fail)
            | refine Wx.yes ?_
            | refine Wx.no ?_
            | refine Wx.block ?_
            | refine Wx.exit ?_
            | refine Wx.ret ?_
            | refine Wx.skip ?_
            | refine Wx.scope ?_
            | refine Wx.still ?_
            | refine Wx.dyn ?_
            | fail)
          exact Rd (k + 1, false, _, [(k : Int)], 1) (by dsimp only; omega) ⟨⟨by dsimp only; omega, rfl⟩, by rw [deadL_succ, hdb, ← h2]; rfl, (fun h => by cases h), fun _ => by simp⟩
        · repeat' (first
            | refine Wo.move ?_
            | refine Wo.assign ?_
            | refine Wo.nil ?_
            | refine Wo.nilD ?_
            | (guard_target =~ WX _ _ _ _ _ _ _ _ _ _ _ _
               first
                | refine Wo.lss (fun _ => ?_) (fun _ => ?_) <;> try (exfalso; omega)
                | refine Wo.leq (fun _ => ?_) (fun _ => ?_) <;> try (exfalso; omega)
                | refine Wo.gtr (fun _ => ?_) (fun _ => ?_) <;> try (exfalso; omega)
                | refine Wo.geq (fun _ => ?_) (fun _ => ?_) <;> try (exfalso; omega)
                | refine Wo.eql (fun _ => ?_) (fun _ => ?_) <;> try (exfalso; omega)
                | refine Wo.neq (fun _ => ?_) (fun _ => ?_) <;> try (exfalso; omega)
                | refine Wo.seq (fun _ => ?_) (fun _ => ?_)
                | refine Wo.sne (fun _ => ?_) (fun _ => ?_)
                | refine Wo.eqS (fun _ => ?_) (fun _ => ?_)
                | refine Wo.neS (fun _ => ?_) (fun _ => ?_)
                | refine Wo.add ?_
                | refine Wo.sub ?_
                | refine Wo.loadW ?_
                | refine Wo.loadSt ?_
                | refine Wo.load ?_
                | refine Wo.storeW ?_
                | refine Wo.store ?_
                | refine Wo.alloc (fun _ => ?_)
                | refine Wo.box (fun _ => ?_)
                | refine Wo.idxA ?_
                | refine Wo.idx (fun _ _ => ?_)
                | refine Wo.cutHi (fun _ _ => ?_)
                | refine Wo.cutLo (fun _ _ => ?_)
                | refine Wo.cutBoth (fun _ _ => ?_)
                | refine Wo.byteA ?_
                | refine Wo.byte (fun _ _ => ?_)
                | refine Wo.loadEw ?_
                | refine Wo.loadE ?_
                | refine Wo.loadL ?_
                | refine Wo.build ?_
                | refine Wo.clos ?_
                | refine Wo.idxO ?_
                | refine Wo.loadMA ?_
                | refine Wo.loadR ?_
                | refine Wo.loadM (fun _ _ => ?_)
                | refine Wo.row (sz := 1) (fun _ => ?_)
                | refine Wo.row (sz := 2) (fun _ => ?_)
                | refine Wo.row (sz := 4) (fun _ => ?_)
                | refine Wo.row (sz := 5) (fun _ => ?_)
                | refine Wo.makeB (fun _ => ?_)
                | refine Wo.makeI (fun _ => ?_)
                | refine Wo.cutO ?_
                | refine Wo.app1 (fun _ => ?_)
                | refine Wo.storeM ?_
                | refine Wo.row0 ?_
                | refine Wo.len ?_
                | refine Wo.pure ?_
                | refine Wo.shut ?_
                | refine Wo.shut' ?_
                | fail)
            | refine Wx.seq ?_
            | refine Wx.plain ?_
            | (guard_target =~ QX _ _ _ _ _ _ _ _
               first
                | refine Wq.normal ?_
                | refine Wq.exit ?_
                | refine Wq.ret ?_
                | refine Wb.normal ?_
                | refine Wb.hit ?_
                | refine Wb.miss ?_
                | refine Wb.ret ?_
                | refine Wl.ret ?_
                | refine Wl.normal ?_
                | fail)
            | refine Wx.yes ?_
            | refine Wx.no ?_
            | refine Wx.block ?_
            | refine Wx.exit ?_
            | refine Wx.ret ?_
            | refine Wx.skip ?_
            | refine Wx.scope ?_
            | refine Wx.still ?_
            | refine Wx.dyn ?_
            | fail)
          exact Rd (k + 1, true, g, D, m) (by dsimp only; omega) ⟨⟨by dsimp only; omega, hm⟩, by rw [deadL_succ, hdb, h2]; simp, h3, h4⟩
  · have hkk : k = t.rules.list.length := by omega
    subst hkk
    cases e <;> dsimp only [cond]
    · have hD := h4 rfl
      subst h2
      repeat' (first
        | refine Wo.move ?_
        | refine Wo.assign ?_
        | refine Wo.nil ?_
        | refine Wo.nilD ?_
        | (guard_target =~ WX _ _ _ _ _ _ _ _ _ _ _ _
           first
            | refine Wo.lss (fun _ => ?_) (fun _ => ?_) <;> try (exfalso; omega)
            | refine Wo.leq (fun _ => ?_) (fun _ => ?_) <;> try (exfalso; omega)
            | refine Wo.gtr (fun _ => ?_) (fun _ => ?_) <;> try (exfalso; omega)
            | refine Wo.geq (fun _ => ?_) (fun _ => ?_) <;> try (exfalso; omega)
            | refine Wo.eql (fun _ => ?_) (fun _ => ?_) <;> try (exfalso; omega)
            | refine Wo.neq (fun _ => ?_) (fun _ => ?_) <;> try (exfalso; omega)
            | refine Wo.seq (fun _ => ?_) (fun _ => ?_)
            | refine Wo.sne (fun _ => ?_) (fun _ => ?_)
            | refine Wo.eqS (fun _ => ?_) (fun _ => ?_)
            | refine Wo.neS (fun _ => ?_) (fun _ => ?_)
            | refine Wo.add ?_
            | refine Wo.sub ?_
            | refine Wo.loadW ?_
            | refine Wo.loadSt ?_
            | refine Wo.load ?_
            | refine Wo.storeW ?_
            | refine Wo.store ?_
            | refine Wo.alloc (fun _ => ?_)
            | refine Wo.box (fun _ => ?_)
            | refine Wo.idxA ?_
            | refine Wo.idx (fun _ _ => ?_)
            | refine Wo.cutHi (fun _ _ => ?_)
            | refine Wo.cutLo (fun _ _ => ?_)
            | refine Wo.cutBoth (fun _ _ => ?_)
            | refine Wo.byteA ?_
            | refine Wo.byte (fun _ _ => ?_)
            | refine Wo.loadEw ?_
            | refine Wo.loadE ?_
            | refine Wo.loadL ?_
            | refine Wo.build ?_
            | refine Wo.clos ?_
            | refine Wo.idxO ?_
            | refine Wo.loadMA ?_
            | refine Wo.loadR ?_
            | refine Wo.loadM (fun _ _ => ?_)
            | refine Wo.row (sz := 1) (fun _ => ?_)
            | refine Wo.row (sz := 2) (fun _ => ?_)
            | refine Wo.row (sz := 4) (fun _ => ?_)
            | refine Wo.row (sz := 5) (fun _ => ?_)
            | refine Wo.makeB (fun _ => ?_)
            | refine Wo.makeI (fun _ => ?_)
            | refine Wo.cutO ?_
            | refine Wo.app1 (fun _ => ?_)
            | refine Wo.storeM ?_
            | refine Wo.row0 ?_
            | refine Wo.len ?_
            | refine Wo.pure ?_
            | refine Wo.shut ?_
            | refine Wo.shut' ?_
            | fail)
        | refine Wx.seq ?_
        | refine Wx.plain ?_
        | (guard_target =~ QX _ _ _ _ _ _ _ _
           first
            | refine Wq.normal ?_
            | refine Wq.exit ?_
            | refine Wq.ret ?_
            | refine Wb.normal ?_
            | refine Wb.hit ?_
            | refine Wb.miss ?_
            | refine Wb.ret ?_
            | refine Wl.ret ?_
            | refine Wl.normal ?_
            | fail)
        | refine Wx.yes ?_
        | refine Wx.no ?_
        | refine Wx.block ?_
        | refine Wx.exit ?_
        | refine Wx.ret ?_
        | refine Wx.skip ?_
        | refine Wx.scope ?_
        | refine Wx.still ?_
        | refine Wx.dyn ?_
        | fail)
      refine Wl.retR ?_ (ho := .own rfl (by rw [List.length_map]; exact hm) .nil)
      rw [deadR_own hD]
    · have hD := h3 rfl
      subst hD
      repeat' (first
        | refine Wo.move ?_
        | refine Wo.assign ?_
        | refine Wo.nil ?_
        | refine Wo.nilD ?_
        | (guard_target =~ WX _ _ _ _ _ _ _ _ _ _ _ _
           first
            | refine Wo.lss (fun _ => ?_) (fun _ => ?_) <;> try (exfalso; omega)
            | refine Wo.leq (fun _ => ?_) (fun _ => ?_) <;> try (exfalso; omega)
            | refine Wo.gtr (fun _ => ?_) (fun _ => ?_) <;> try (exfalso; omega)
            | refine Wo.geq (fun _ => ?_) (fun _ => ?_) <;> try (exfalso; omega)
            | refine Wo.eql (fun _ => ?_) (fun _ => ?_) <;> try (exfalso; omega)
            | refine Wo.neq (fun _ => ?_) (fun _ => ?_) <;> try (exfalso; omega)
            | refine Wo.seq (fun _ => ?_) (fun _ => ?_)
            | refine Wo.sne (fun _ => ?_) (fun _ => ?_)
            | refine Wo.eqS (fun _ => ?_) (fun _ => ?_)
            | refine Wo.neS (fun _ => ?_) (fun _ => ?_)
            | refine Wo.add ?_
            | refine Wo.sub ?_
            | refine Wo.loadW ?_
            | refine Wo.loadSt ?_
            | refine Wo.load ?_
            | refine Wo.storeW ?_
            | refine Wo.store ?_
            | refine Wo.alloc (fun _ => ?_)
            | refine Wo.box (fun _ => ?_)
            | refine Wo.idxA ?_
            | refine Wo.idx (fun _ _ => ?_)
            | refine Wo.cutHi (fun _ _ => ?_)
            | refine Wo.cutLo (fun _ _ => ?_)
            | refine Wo.cutBoth (fun _ _ => ?_)
            | refine Wo.byteA ?_
            | refine Wo.byte (fun _ _ => ?_)
            | refine Wo.loadEw ?_
            | refine Wo.loadE ?_
            | refine Wo.loadL ?_
            | refine Wo.build ?_
            | refine Wo.clos ?_
            | refine Wo.idxO ?_
            | refine Wo.loadMA ?_
            | refine Wo.loadR ?_
            | refine Wo.loadM (fun _ _ => ?_)
            | refine Wo.row (sz := 1) (fun _ => ?_)
            | refine Wo.row (sz := 2) (fun _ => ?_)
            | refine Wo.row (sz := 4) (fun _ => ?_)
            | refine Wo.row (sz := 5) (fun _ => ?_)
            | refine Wo.makeB (fun _ => ?_)
            | refine Wo.makeI (fun _ => ?_)
            | refine Wo.cutO ?_
            | refine Wo.app1 (fun _ => ?_)
            | refine Wo.storeM ?_
            | refine Wo.row0 ?_
            | refine Wo.len ?_
            | refine Wo.pure ?_
            | refine Wo.shut ?_
            | refine Wo.shut' ?_
            | fail)
        | refine Wx.seq ?_
        | refine Wx.plain ?_
        | (guard_target =~ QX _ _ _ _ _ _ _ _
           first
            | refine Wq.normal ?_
            | refine Wq.exit ?_
            | refine Wq.ret ?_
            | refine Wb.normal ?_
            | refine Wb.hit ?_
            | refine Wb.miss ?_
            | refine Wb.ret ?_
            | refine Wl.ret ?_
            | refine Wl.normal ?_
            | fail)
        | refine Wx.yes ?_
        | refine Wx.no ?_
        | refine Wx.block ?_
        | refine Wx.exit ?_
        | refine Wx.ret ?_
        | refine Wx.skip ?_
        | refine Wx.scope ?_
        | refine Wx.still ?_
        | refine Wx.dyn ?_
        | fail)
      rw [deadR_nil h2.symm]

theorem r_Bools (s s' : Sl Bool) (h : s.list = s'.list) (hs : Sl.ok s) (H : Hp) : Runs Try.prog pol 18 [.val (slV VV.bool s), .val (slV VV.bool s')] H ([.val (.bool true)], [], H) := by
  unfold Sl.ok at hs
  have hl : s'.list.length = s.list.length := by rw [h]
  refine Runs.told (fn := Try.f18) (n := 26) [(0, .val (slV VV.bool s)), (1, .val (slV VV.bool s'))] [(0, .gone 0), (1, .gone 0)] rfl Try.func18 rfl rfl (by kernel_rfl) rfl (by repeat' constructor) (by repeat' constructor) ?_
  repeat' (first
    | refine Wo.move ?_
    | refine Wo.assign ?_
    | refine Wo.nil ?_
    | refine Wo.nilD ?_
    | (guard_target =~ WX _ _ _ _ _ _ _ _ _ _ _ _
       first
        | refine Wo.lss (fun _ => ?_) (fun _ => ?_) <;> try (exfalso; omega)
        | refine Wo.leq (fun _ => ?_) (fun _ => ?_) <;> try (exfalso; omega)
        | refine Wo.gtr (fun _ => ?_) (fun _ => ?_) <;> try (exfalso; omega)
        | refine Wo.geq (fun _ => ?_) (fun _ => ?_) <;> try (exfalso; omega)
        | refine Wo.eql (fun _ => ?_) (fun _ => ?_) <;> try (exfalso; omega)
        | refine Wo.neq (fun _ => ?_) (fun _ => ?_) <;> try (exfalso; omega)
        | refine Wo.seq (fun _ => ?_) (fun _ => ?_)
        | refine Wo.sne (fun _ => ?_) (fun _ => ?_)
        | refine Wo.eqS (fun _ => ?_) (fun _ => ?_)
        | refine Wo.neS (fun _ => ?_) (fun _ => ?_)
        | refine Wo.add ?_
        | refine Wo.sub ?_
        | refine Wo.loadW ?_
        | refine Wo.loadSt ?_
        | refine Wo.load ?_
        | refine Wo.storeW ?_
        | refine Wo.store ?_
        | refine Wo.alloc (fun _ => ?_)
        | refine Wo.box (fun _ => ?_)
        | refine Wo.idxA ?_
        | refine Wo.idx (fun _ _ => ?_)
        | refine Wo.cutHi (fun _ _ => ?_)
        | refine Wo.cutLo (fun _ _ => ?_)
        | refine Wo.cutBoth (fun _ _ => ?_)
        | refine Wo.byteA ?_
        | refine Wo.byte (fun _ _ => ?_)
        | refine Wo.loadEw ?_
        | refine Wo.loadE ?_
        | refine Wo.loadL ?_
        | refine Wo.build ?_
        | refine Wo.clos ?_
        | refine Wo.idxO ?_
        | refine Wo.loadMA ?_
        | refine Wo.loadR ?_
        | refine Wo.loadM (fun _ _ => ?_)
        | refine Wo.row (sz := 1) (fun _ => ?_)
        | refine Wo.row (sz := 2) (fun _ => ?_)
        | refine Wo.row (sz := 4) (fun _ => ?_)
        | refine Wo.row (sz := 5) (fun _ => ?_)
        | refine Wo.makeB (fun _ => ?_)
        | refine Wo.makeI (fun _ => ?_)
        | refine Wo.cutO ?_
        | refine Wo.app1 (fun _ => ?_)
        | refine Wo.storeM ?_
        | refine Wo.row0 ?_
        | refine Wo.len ?_
        | refine Wo.pure ?_
        | refine Wo.shut ?_
        | refine Wo.shut' ?_
        | fail)
    | refine Wx.seq ?_
    | refine Wx.plain ?_
    | (guard_target =~ QX _ _ _ _ _ _ _ _
       first
        | refine Wq.normal ?_
        | refine Wq.exit ?_
        | refine Wq.ret ?_
        | refine Wb.normal ?_
        | refine Wb.hit ?_
        | refine Wb.miss ?_
        | refine Wb.ret ?_
        | refine Wl.ret ?_
        | refine Wl.normal ?_
        | fail)
    | refine Wx.yes ?_
    | refine Wx.no ?_
    | refine Wx.block ?_
    | refine Wx.exit ?_
    | refine Wx.ret ?_
    | refine Wx.skip ?_
    | refine Wx.scope ?_
    | refine Wx.still ?_
    | refine Wx.dyn ?_
    | fail)
  refine Wx.loop [0, 1] [0, 1] (fun k => [(5, .val (iv (k : Nat)))]) (fun k => []) (fun k => k ≤ s.list.length ∧ True) (fun k => s.list.length - k) 0 ⟨Nat.zero_le _, trivial⟩ (fun k x y hG => ?_)
  obtain ⟨h1, h2⟩ := hG
  dsimp only [List.cons_append, List.nil_append]
  rcases Nat.lt_or_ge k s.list.length with hk | hk
  · obtain ⟨z, hz⟩ := at_some hk
    have hz2 : s'.list[k]? = some z := by rw [← h]; exact hz
    cases z
    · repeat' (first
        | refine Wo.move ?_
        | refine Wo.assign ?_
        | refine Wo.nil ?_
        | refine Wo.nilD ?_
        | (guard_target =~ WX _ _ _ _ _ _ _ _ _ _ _ _
           first
            | refine Wo.lss (fun _ => ?_) (fun _ => ?_) <;> try (exfalso; omega)
            | refine Wo.leq (fun _ => ?_) (fun _ => ?_) <;> try (exfalso; omega)
            | refine Wo.gtr (fun _ => ?_) (fun _ => ?_) <;> try (exfalso; omega)
            | refine Wo.geq (fun _ => ?_) (fun _ => ?_) <;> try (exfalso; omega)
            | refine Wo.eql (fun _ => ?_) (fun _ => ?_) <;> try (exfalso; omega)
            | refine Wo.neq (fun _ => ?_) (fun _ => ?_) <;> try (exfalso; omega)
            | refine Wo.seq (fun _ => ?_) (fun _ => ?_)
            | refine Wo.sne (fun _ => ?_) (fun _ => ?_)
            | refine Wo.eqS (fun _ => ?_) (fun _ => ?_)
            | refine Wo.neS (fun _ => ?_) (fun _ => ?_)
            | refine Wo.add ?_
            | refine Wo.sub ?_
            | refine Wo.loadW ?_
            | refine Wo.loadSt ?_
            | refine Wo.load ?_
            | refine Wo.storeW ?_
            | refine Wo.store ?_
            | refine Wo.alloc (fun _ => ?_)
            | refine Wo.box (fun _ => ?_)
            | refine Wo.idxA ?_
            | refine Wo.idx (fun _ _ => ?_)
            | refine Wo.cutHi (fun _ _ => ?_)
            | refine Wo.cutLo (fun _ _ => ?_)
            | refine Wo.cutBoth (fun _ _ => ?_)
            | refine Wo.byteA ?_
            | refine Wo.byte (fun _ _ => ?_)
            | refine Wo.loadEw ?_
            | refine Wo.loadE ?_
            | refine Wo.loadL ?_
            | refine Wo.build ?_
            | refine Wo.clos ?_
            | refine Wo.idxO ?_
            | refine Wo.loadMA ?_
            | refine Wo.loadR ?_
            | refine Wo.loadM (fun _ _ => ?_)
            | refine Wo.row (sz := 1) (fun _ => ?_)
            | refine Wo.row (sz := 2) (fun _ => ?_)
            | refine Wo.row (sz := 4) (fun _ => ?_)
            | refine Wo.row (sz := 5) (fun _ => ?_)
            | refine Wo.makeB (fun _ => ?_)
            | refine Wo.makeI (fun _ => ?_)
            | refine Wo.cutO ?_
            | refine Wo.app1 (fun _ => ?_)
            | refine Wo.storeM ?_
            | refine Wo.row0 ?_
            | refine Wo.len ?_
            | refine Wo.pure ?_
            | refine Wo.shut ?_
            | refine Wo.shut' ?_
            | fail)
        | refine Wx.seq ?_
        | refine Wx.plain ?_
        | (guard_target =~ QX _ _ _ _ _ _ _ _
           first
            | refine Wq.normal ?_
            | refine Wq.exit ?_
            | refine Wq.ret ?_
            | refine Wb.normal ?_
            | refine Wb.hit ?_
            | refine Wb.miss ?_
            | refine Wb.ret ?_
            | refine Wl.ret ?_
            | refine Wl.normal ?_
            | fail)
        | refine Wx.yes ?_
        | refine Wx.no ?_
        | refine Wx.block ?_
        | refine Wx.exit ?_
        | refine Wx.ret ?_
        | refine Wx.skip ?_
        | refine Wx.scope ?_
        | refine Wx.still ?_
        | refine Wx.dyn ?_
        | fail)
      exact Rd (k + 1) (by omega) ⟨by omega, trivial⟩
    · repeat' (first
        | refine Wo.move ?_
        | refine Wo.assign ?_
        | refine Wo.nil ?_
        | refine Wo.nilD ?_
        | (guard_target =~ WX _ _ _ _ _ _ _ _ _ _ _ _
           first
            | refine Wo.lss (fun _ => ?_) (fun _ => ?_) <;> try (exfalso; omega)
            | refine Wo.leq (fun _ => ?_) (fun _ => ?_) <;> try (exfalso; omega)
            | refine Wo.gtr (fun _ => ?_) (fun _ => ?_) <;> try (exfalso; omega)
            | refine Wo.geq (fun _ => ?_) (fun _ => ?_) <;> try (exfalso; omega)
            | refine Wo.eql (fun _ => ?_) (fun _ => ?_) <;> try (exfalso; omega)
            | refine Wo.neq (fun _ => ?_) (fun _ => ?_) <;> try (exfalso; omega)
            | refine Wo.seq (fun _ => ?_) (fun _ => ?_)
            | refine Wo.sne (fun _ => ?_) (fun _ => ?_)
            | refine Wo.eqS (fun _ => ?_) (fun _ => ?_)
            | refine Wo.neS (fun _ => ?_) (fun _ => ?_)
            | refine Wo.add ?_
            | refine Wo.sub ?_
            | refine Wo.loadW ?_
            | refine Wo.loadSt ?_
            | refine Wo.load ?_
            | refine Wo.storeW ?_
            | refine Wo.store ?_
            | refine Wo.alloc (fun _ => ?_)
            | refine Wo.box (fun _ => ?_)
            | refine Wo.idxA ?_
            | refine Wo.idx (fun _ _ => ?_)
            | refine Wo.cutHi (fun _ _ => ?_)
            | refine Wo.cutLo (fun _ _ => ?_)
            | refine Wo.cutBoth (fun _ _ => ?_)
            | refine Wo.byteA ?_
            | refine Wo.byte (fun _ _ => ?_)
            | refine Wo.loadEw ?_
            | refine Wo.loadE ?_
            | refine Wo.loadL ?_
            | refine Wo.build ?_
            | refine Wo.clos ?_
            | refine Wo.idxO ?_
            | refine Wo.loadMA ?_
            | refine Wo.loadR ?_
            | refine Wo.loadM (fun _ _ => ?_)
            | refine Wo.row (sz := 1) (fun _ => ?_)
            | refine Wo.row (sz := 2) (fun _ => ?_)
            | refine Wo.row (sz := 4) (fun _ => ?_)
            | refine Wo.row (sz := 5) (fun _ => ?_)
            | refine Wo.makeB (fun _ => ?_)
            | refine Wo.makeI (fun _ => ?_)
            | refine Wo.cutO ?_
            | refine Wo.app1 (fun _ => ?_)
            | refine Wo.storeM ?_
            | refine Wo.row0 ?_
            | refine Wo.len ?_
            | refine Wo.pure ?_
            | refine Wo.shut ?_
            | refine Wo.shut' ?_
            | fail)
        | refine Wx.seq ?_
        | refine Wx.plain ?_
        | (guard_target =~ QX _ _ _ _ _ _ _ _
           first
            | refine Wq.normal ?_
            | refine Wq.exit ?_
            | refine Wq.ret ?_
            | refine Wb.normal ?_
            | refine Wb.hit ?_
            | refine Wb.miss ?_
            | refine Wb.ret ?_
            | refine Wl.ret ?_
            | refine Wl.normal ?_
            | fail)
        | refine Wx.yes ?_
        | refine Wx.no ?_
        | refine Wx.block ?_
        | refine Wx.exit ?_
        | refine Wx.ret ?_
        | refine Wx.skip ?_
        | refine Wx.scope ?_
        | refine Wx.still ?_
        | refine Wx.dyn ?_
        | fail)
      exact Rd (k + 1) (by omega) ⟨by omega, trivial⟩
  · repeat' (first
      | refine Wo.move ?_
      | refine Wo.assign ?_
      | refine Wo.nil ?_
      | refine Wo.nilD ?_
      | (guard_target =~ WX _ _ _ _ _ _ _ _ _ _ _ _
         first
          | refine Wo.lss (fun _ => ?_) (fun _ => ?_) <;> try (exfalso; omega)
          | refine Wo.leq (fun _ => ?_) (fun _ => ?_) <;> try (exfalso; omega)
          | refine Wo.gtr (fun _ => ?_) (fun _ => ?_) <;> try (exfalso; omega)
          | refine Wo.geq (fun _ => ?_) (fun _ => ?_) <;> try (exfalso; omega)
          | refine Wo.eql (fun _ => ?_) (fun _ => ?_) <;> try (exfalso; omega)
          | refine Wo.neq (fun _ => ?_) (fun _ => ?_) <;> try (exfalso; omega)
          | refine Wo.seq (fun _ => ?_) (fun _ => ?_)
          | refine Wo.sne (fun _ => ?_) (fun _ => ?_)
          | refine Wo.eqS (fun _ => ?_) (fun _ => ?_)
          | refine Wo.neS (fun _ => ?_) (fun _ => ?_)
          | refine Wo.add ?_
          | refine Wo.sub ?_
          | refine Wo.loadW ?_
          | refine Wo.loadSt ?_
          | refine Wo.load ?_
          | refine Wo.storeW ?_
          | refine Wo.store ?_
          | refine Wo.alloc (fun _ => ?_)
          | refine Wo.box (fun _ => ?_)
          | refine Wo.idxA ?_
          | refine Wo.idx (fun _ _ => ?_)
          | refine Wo.cutHi (fun _ _ => ?_)
          | refine Wo.cutLo (fun _ _ => ?_)
          | refine Wo.cutBoth (fun _ _ => ?_)
          | refine Wo.byteA ?_
          | refine Wo.byte (fun _ _ => ?_)
          | refine Wo.loadEw ?_
          | refine Wo.loadE ?_
          | refine Wo.loadL ?_
          | refine Wo.build ?_
          | refine Wo.clos ?_
          | refine Wo.idxO ?_
          | refine Wo.loadMA ?_
          | refine Wo.loadR ?_
          | refine Wo.loadM (fun _ _ => ?_)
          | refine Wo.row (sz := 1) (fun _ => ?_)
          | refine Wo.row (sz := 2) (fun _ => ?_)
          | refine Wo.row (sz := 4) (fun _ => ?_)
          | refine Wo.row (sz := 5) (fun _ => ?_)
          | refine Wo.makeB (fun _ => ?_)
          | refine Wo.makeI (fun _ => ?_)
          | refine Wo.cutO ?_
          | refine Wo.app1 (fun _ => ?_)
          | refine Wo.storeM ?_
          | refine Wo.row0 ?_
          | refine Wo.len ?_
          | refine Wo.pure ?_
          | refine Wo.shut ?_
          | refine Wo.shut' ?_
          | fail)
      | refine Wx.seq ?_
      | refine Wx.plain ?_
      | (guard_target =~ QX _ _ _ _ _ _ _ _
         first
          | refine Wq.normal ?_
          | refine Wq.exit ?_
          | refine Wq.ret ?_
          | refine Wb.normal ?_
          | refine Wb.hit ?_
          | refine Wb.miss ?_
          | refine Wb.ret ?_
          | refine Wl.ret ?_
          | refine Wl.normal ?_
          | fail)
      | refine Wx.yes ?_
      | refine Wx.no ?_
      | refine Wx.block ?_
      | refine Wx.exit ?_
      | refine Wx.ret ?_
      | refine Wx.skip ?_
      | refine Wx.scope ?_
      | refine Wx.still ?_
      | refine Wx.dyn ?_
      | fail)
    rfl
theorem r_Ints (s s' : Sl Int) (h : s.list = s'.list) (hs : Sl.ok s) (H : Hp) : Runs Try.prog pol 20 [.val (slV iv s), .val (slV iv s')] H ([.val (.bool true)], [], H) := by
  unfold Sl.ok at hs
  have hl : s'.list.length = s.list.length := by rw [h]
  refine Runs.told (fn := Try.f20) (n := 26) [(0, .val (slV iv s)), (1, .val (slV iv s'))] [(0, .gone 0), (1, .gone 0)] rfl Try.func20 rfl rfl (by kernel_rfl) rfl (by repeat' constructor) (by repeat' constructor) ?_
  repeat' (first
    | refine Wo.move ?_
    | refine Wo.assign ?_
    | refine Wo.nil ?_
    | refine Wo.nilD ?_
    | (guard_target =~ WX _ _ _ _ _ _ _ _ _ _ _ _
       first
        | refine Wo.lss (fun _ => ?_) (fun _ => ?_) <;> try (exfalso; omega)
        | refine Wo.leq (fun _ => ?_) (fun _ => ?_) <;> try (exfalso; omega)
        | refine Wo.gtr (fun _ => ?_) (fun _ => ?_) <;> try (exfalso; omega)
        | refine Wo.geq (fun _ => ?_) (fun _ => ?_) <;> try (exfalso; omega)
        | refine Wo.eql (fun _ => ?_) (fun _ => ?_) <;> try (exfalso; omega)
        | refine Wo.neq (fun _ => ?_) (fun _ => ?_) <;> try (exfalso; omega)
        | refine Wo.seq (fun _ => ?_) (fun _ => ?_)
        | refine Wo.sne (fun _ => ?_) (fun _ => ?_)
        | refine Wo.eqS (fun _ => ?_) (fun _ => ?_)
        | refine Wo.neS (fun _ => ?_) (fun _ => ?_)
        | refine Wo.add ?_
        | refine Wo.sub ?_
        | refine Wo.loadW ?_
        | refine Wo.loadSt ?_
        | refine Wo.load ?_
        | refine Wo.storeW ?_
        | refine Wo.store ?_
        | refine Wo.alloc (fun _ => ?_)
        | refine Wo.box (fun _ => ?_)
        | refine Wo.idxA ?_
        | refine Wo.idx (fun _ _ => ?_)
        | refine Wo.cutHi (fun _ _ => ?_)
        | refine Wo.cutLo (fun _ _ => ?_)
        | refine Wo.cutBoth (fun _ _ => ?_)
        | refine Wo.byteA ?_
        | refine Wo.byte (fun _ _ => ?_)
        | refine Wo.loadEw ?_
        | refine Wo.loadE ?_
        | refine Wo.loadL ?_
        | refine Wo.build ?_
        | refine Wo.clos ?_
        | refine Wo.idxO ?_
        | refine Wo.loadMA ?_
        | refine Wo.loadR ?_
        | refine Wo.loadM (fun _ _ => ?_)
        | refine Wo.row (sz := 1) (fun _ => ?_)
        | refine Wo.row (sz := 2) (fun _ => ?_)
        | refine Wo.row (sz := 4) (fun _ => ?_)
        | refine Wo.row (sz := 5) (fun _ => ?_)
        | refine Wo.makeB (fun _ => ?_)
        | refine Wo.makeI (fun _ => ?_)
        | refine Wo.cutO ?_
        | refine Wo.app1 (fun _ => ?_)
        | refine Wo.storeM ?_
        | refine Wo.row0 ?_
        | refine Wo.len ?_
        | refine Wo.pure ?_
        | refine Wo.shut ?_
        | refine Wo.shut' ?_
        | fail)
    | refine Wx.seq ?_
    | refine Wx.plain ?_
    | (guard_target =~ QX _ _ _ _ _ _ _ _
       first
        | refine Wq.normal ?_
        | refine Wq.exit ?_
        | refine Wq.ret ?_
        | refine Wb.normal ?_
        | refine Wb.hit ?_
        | refine Wb.miss ?_
        | refine Wb.ret ?_
        | refine Wl.ret ?_
        | refine Wl.normal ?_
        | fail)
    | refine Wx.yes ?_
    | refine Wx.no ?_
    | refine Wx.block ?_
    | refine Wx.exit ?_
    | refine Wx.ret ?_
    | refine Wx.skip ?_
    | refine Wx.scope ?_
    | refine Wx.still ?_
    | refine Wx.dyn ?_
    | fail)
  refine Wx.loop [0, 1] [0, 1] (fun k => [(5, .val (iv (k : Nat)))]) (fun k => []) (fun k => k ≤ s.list.length ∧ True) (fun k => s.list.length - k) 0 ⟨Nat.zero_le _, trivial⟩ (fun k x y hG => ?_)
  obtain ⟨h1, h2⟩ := hG
  dsimp only [List.cons_append, List.nil_append]
  rcases Nat.lt_or_ge k s.list.length with hk | hk
  · obtain ⟨z, hz⟩ := at_some hk
    have hz2 : s'.list[k]? = some z := by rw [← h]; exact hz
    repeat' (first
      | refine Wo.move ?_
      | refine Wo.assign ?_
      | refine Wo.nil ?_
      | refine Wo.nilD ?_
      | (guard_target =~ WX _ _ _ _ _ _ _ _ _ _ _ _
         first
          | refine Wo.lss (fun _ => ?_) (fun _ => ?_) <;> try (exfalso; omega)
          | refine Wo.leq (fun _ => ?_) (fun _ => ?_) <;> try (exfalso; omega)
          | refine Wo.gtr (fun _ => ?_) (fun _ => ?_) <;> try (exfalso; omega)
          | refine Wo.geq (fun _ => ?_) (fun _ => ?_) <;> try (exfalso; omega)
          | refine Wo.eql (fun _ => ?_) (fun _ => ?_) <;> try (exfalso; omega)
          | refine Wo.neq (fun _ => ?_) (fun _ => ?_) <;> try (exfalso; omega)
          | refine Wo.seq (fun _ => ?_) (fun _ => ?_)
          | refine Wo.sne (fun _ => ?_) (fun _ => ?_)
          | refine Wo.eqS (fun _ => ?_) (fun _ => ?_)
          | refine Wo.neS (fun _ => ?_) (fun _ => ?_)
          | refine Wo.add ?_
          | refine Wo.sub ?_
          | refine Wo.loadW ?_
          | refine Wo.loadSt ?_
          | refine Wo.load ?_
          | refine Wo.storeW ?_
          | refine Wo.store ?_
          | refine Wo.alloc (fun _ => ?_)
          | refine Wo.box (fun _ => ?_)
          | refine Wo.idxA ?_
          | refine Wo.idx (fun _ _ => ?_)
          | refine Wo.cutHi (fun _ _ => ?_)
          | refine Wo.cutLo (fun _ _ => ?_)
          | refine Wo.cutBoth (fun _ _ => ?_)
          | refine Wo.byteA ?_
          | refine Wo.byte (fun _ _ => ?_)
          | refine Wo.loadEw ?_
          | refine Wo.loadE ?_
          | refine Wo.loadL ?_
          | refine Wo.build ?_
          | refine Wo.clos ?_
          | refine Wo.idxO ?_
          | refine Wo.loadMA ?_
          | refine Wo.loadR ?_
          | refine Wo.loadM (fun _ _ => ?_)
          | refine Wo.row (sz := 1) (fun _ => ?_)
          | refine Wo.row (sz := 2) (fun _ => ?_)
          | refine Wo.row (sz := 4) (fun _ => ?_)
          | refine Wo.row (sz := 5) (fun _ => ?_)
          | refine Wo.makeB (fun _ => ?_)
          | refine Wo.makeI (fun _ => ?_)
          | refine Wo.cutO ?_
          | refine Wo.app1 (fun _ => ?_)
          | refine Wo.storeM ?_
          | refine Wo.row0 ?_
          | refine Wo.len ?_
          | refine Wo.pure ?_
          | refine Wo.shut ?_
          | refine Wo.shut' ?_
          | fail)
      | refine Wx.seq ?_
      | refine Wx.plain ?_
      | (guard_target =~ QX _ _ _ _ _ _ _ _
         first
          | refine Wq.normal ?_
          | refine Wq.exit ?_
          | refine Wq.ret ?_
          | refine Wb.normal ?_
          | refine Wb.hit ?_
          | refine Wb.miss ?_
          | refine Wb.ret ?_
          | refine Wl.ret ?_
          | refine Wl.normal ?_
          | fail)
      | refine Wx.yes ?_
      | refine Wx.no ?_
      | refine Wx.block ?_
      | refine Wx.exit ?_
      | refine Wx.ret ?_
      | refine Wx.skip ?_
      | refine Wx.scope ?_
      | refine Wx.still ?_
      | refine Wx.dyn ?_
      | fail)
    exact Rd (k + 1) (by omega) ⟨by omega, trivial⟩
  · repeat' (first
      | refine Wo.move ?_
      | refine Wo.assign ?_
      | refine Wo.nil ?_
      | refine Wo.nilD ?_
      | (guard_target =~ WX _ _ _ _ _ _ _ _ _ _ _ _
         first
          | refine Wo.lss (fun _ => ?_) (fun _ => ?_) <;> try (exfalso; omega)
          | refine Wo.leq (fun _ => ?_) (fun _ => ?_) <;> try (exfalso; omega)
          | refine Wo.gtr (fun _ => ?_) (fun _ => ?_) <;> try (exfalso; omega)
          | refine Wo.geq (fun _ => ?_) (fun _ => ?_) <;> try (exfalso; omega)
          | refine Wo.eql (fun _ => ?_) (fun _ => ?_) <;> try (exfalso; omega)
          | refine Wo.neq (fun _ => ?_) (fun _ => ?_) <;> try (exfalso; omega)
          | refine Wo.seq (fun _ => ?_) (fun _ => ?_)
          | refine Wo.sne (fun _ => ?_) (fun _ => ?_)
          | refine Wo.eqS (fun _ => ?_) (fun _ => ?_)
          | refine Wo.neS (fun _ => ?_) (fun _ => ?_)
          | refine Wo.add ?_
          | refine Wo.sub ?_
          | refine Wo.loadW ?_
          | refine Wo.loadSt ?_
          | refine Wo.load ?_
          | refine Wo.storeW ?_
          | refine Wo.store ?_
          | refine Wo.alloc (fun _ => ?_)
          | refine Wo.box (fun _ => ?_)
          | refine Wo.idxA ?_
          | refine Wo.idx (fun _ _ => ?_)
          | refine Wo.cutHi (fun _ _ => ?_)
          | refine Wo.cutLo (fun _ _ => ?_)
          | refine Wo.cutBoth (fun _ _ => ?_)
          | refine Wo.byteA ?_
          | refine Wo.byte (fun _ _ => ?_)
          | refine Wo.loadEw ?_
          | refine Wo.loadE ?_
          | refine Wo.loadL ?_
          | refine Wo.build ?_
          | refine Wo.clos ?_
          | refine Wo.idxO ?_
          | refine Wo.loadMA ?_
          | refine Wo.loadR ?_
          | refine Wo.loadM (fun _ _ => ?_)
          | refine Wo.row (sz := 1) (fun _ => ?_)
          | refine Wo.row (sz := 2) (fun _ => ?_)
          | refine Wo.row (sz := 4) (fun _ => ?_)
          | refine Wo.row (sz := 5) (fun _ => ?_)
          | refine Wo.makeB (fun _ => ?_)
          | refine Wo.makeI (fun _ => ?_)
          | refine Wo.cutO ?_
          | refine Wo.app1 (fun _ => ?_)
          | refine Wo.storeM ?_
          | refine Wo.row0 ?_
          | refine Wo.len ?_
          | refine Wo.pure ?_
          | refine Wo.shut ?_
          | refine Wo.shut' ?_
          | fail)
      | refine Wx.seq ?_
      | refine Wx.plain ?_
      | (guard_target =~ QX _ _ _ _ _ _ _ _
         first
          | refine Wq.normal ?_
          | refine Wq.exit ?_
          | refine Wq.ret ?_
          | refine Wb.normal ?_
          | refine Wb.hit ?_
          | refine Wb.miss ?_
          | refine Wb.ret ?_
          | refine Wl.ret ?_
          | refine Wl.normal ?_
          | fail)
      | refine Wx.yes ?_
      | refine Wx.no ?_
      | refine Wx.block ?_
      | refine Wx.exit ?_
      | refine Wx.ret ?_
      | refine Wx.skip ?_
      | refine Wx.scope ?_
      | refine Wx.still ?_
      | refine Wx.dyn ?_
      | fail)
    rfl
end Go.Vi.CYtdfhbmallnegfaa
