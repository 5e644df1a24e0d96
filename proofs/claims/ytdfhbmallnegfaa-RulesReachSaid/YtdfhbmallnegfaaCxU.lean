/-
  Which states can be reached: the walk of the law.
-/
import Derived.Test.YtdfhbmallnegfaaCxT
import Derived.Test.YtdfhbmallnegfaaCxQ
import Derived.Test.YtdfhbmallnegfaaCxI
import Derived.Test.YtdfhbmallnegfaaV3
namespace Go.Vi.CYtdfhbmallnegfaa
open Go.Vi Go.Proofs Go.Proofs.Ytdfhbmallnegfaa
set_option linter.unusedVariables false
set_option maxHeartbeats 8000000
set_option maxRecDepth 100000
set_option linter.unusedSimpArgs false

theorem r_Dead0 (t : Tb) (ht : t.ok) (hR : right' t = false) (H : Hp) : Runs Try.prog pol 17 [.val (tbV t)] H ([.val .nils], [], H) := by
  have hrl := ht.2.2.2.1
  unfold Sl.ok at hrl
  refine Runs.told (fn := Try.f17) (n := 42) [(0, .val (tbV t))] [(0, .gone 0)] rfl Try.func17 rfl rfl (by kernel_rfl) rfl (by repeat' constructor) (by repeat' constructor) ?_
  repeat' (first
    | refine Wo.move ?_
    | refine Wo.assign ?_
    | refine Wo.nil ?_
    | refine Wo.nilD ?_
    | (guard_target =~ WX _ _ _ _ _ _ _ _ _ _ _ _
       first
        | refine Wo.lss (fun _ => ?_) (fun _ => ?_) <;> try (exfalso; omega)
        | refine Wo.leq (fun _ => ?_) (fun _ => ?_) <;> try (exfalso; omega)
        | refine Wo.gtr (fun _ => ?_) (fun _ => ?_) <;> try (exfalso; omega)
        | refine Wo.geq (fun _ => ?_) (fun _ => ?_) <;> try (exfalso; omega)
        | refine Wo.eql (fun _ => ?_) (fun _ => ?_) <;> try (exfalso; omega)
        | refine Wo.neq (fun _ => ?_) (fun _ => ?_) <;> try (exfalso; omega)
        | refine Wo.seq (fun _ => ?_) (fun _ => ?_)
        | refine Wo.sne (fun _ => ?_) (fun _ => ?_)
        | refine Wo.eqS (fun _ => ?_) (fun _ => ?_)
        | refine Wo.neS (fun _ => ?_) (fun _ => ?_)
        | refine Wo.add ?_
        | refine Wo.sub ?_
        | refine Wo.loadW ?_
        | refine Wo.loadSt ?_
        | refine Wo.load ?_
        | refine Wo.storeW ?_
        | refine Wo.store ?_
        | refine Wo.alloc (fun _ => ?_)
        | refine Wo.box (fun _ => ?_)
        | refine Wo.idxA ?_
        | refine Wo.idx (fun _ _ => ?_)
        | refine Wo.cutHi (fun _ _ => ?_)
        | refine Wo.cutLo (fun _ _ => ?_)
        | refine Wo.cutBoth (fun _ _ => ?_)
        | refine Wo.byteA ?_
        | refine Wo.byte (fun _ _ => ?_)
        | refine Wo.loadEw ?_
        | refine Wo.loadE ?_
        | refine Wo.loadL ?_
        | refine Wo.build ?_
        | refine Wo.clos ?_
        | refine Wo.idxO ?_
        | refine Wo.loadMA ?_
        | refine Wo.loadR ?_
        | refine Wo.loadM (fun _ _ => ?_)
        | refine Wo.row (sz := 1) (fun _ => ?_)
        | refine Wo.row (sz := 2) (fun _ => ?_)
        | refine Wo.row (sz := 4) (fun _ => ?_)
        | refine Wo.row (sz := 5) (fun _ => ?_)
        | refine Wo.makeB (fun _ => ?_)
        | refine Wo.makeI (fun _ => ?_)
        | refine Wo.cutO ?_
        | refine Wo.app1 (fun _ => ?_)
        | refine Wo.storeM ?_
        | refine Wo.row0 ?_
        | refine Wo.call0 (r_Reach0 t ht hR) ?_
        | refine Wo.len ?_
        | refine Wo.pure ?_
        | refine Wo.shut ?_
        | refine Wo.shut' ?_
        | fail)
    | refine Wx.seq ?_
    | refine Wx.plain ?_
    | (guard_target =~ QX _ _ _ _ _ _ _ _
       first
        | refine Wq.normal ?_
        | refine Wq.exit ?_
        | refine Wq.ret ?_
        | refine Wb.normal ?_
        | refine Wb.hit ?_
        | refine Wb.miss ?_
        | refine Wb.ret ?_
        | refine Wl.ret ?_
        | refine Wl.normal ?_
        | fail)
    | refine Wx.yes ?_
    | refine Wx.no ?_
    | refine Wx.block ?_
    | refine Wx.exit ?_
    | refine Wx.ret ?_
    | refine Wx.skip ?_
    | refine Wx.scope ?_
    | refine Wx.still ?_
    | refine Wx.dyn ?_
    | fail)
  refine Wx.loop [1, 2, 3, 13, 41] [0, 1, 10] (fun k => [(14, .val (iv (k : Nat))), (4, .val .nils)]) (fun k => []) (fun k => k ≤ t.rules.list.length ∧ True) (fun k => t.rules.list.length - k) 0 ⟨Nat.zero_le _, trivial⟩ (fun k x y hG => ?_)
  obtain ⟨h1, h2⟩ := hG
  dsimp only [List.cons_append, List.nil_append]
  rcases Nat.lt_or_ge k t.rules.list.length with hk | hk
  · repeat' (first
      | refine Wo.move ?_
      | refine Wo.assign ?_
      | refine Wo.nil ?_
      | refine Wo.nilD ?_
      | (guard_target =~ WX _ _ _ _ _ _ _ _ _ _ _ _
         first
          | refine Wo.lss (fun _ => ?_) (fun _ => ?_) <;> try (exfalso; omega)
          | refine Wo.leq (fun _ => ?_) (fun _ => ?_) <;> try (exfalso; omega)
          | refine Wo.gtr (fun _ => ?_) (fun _ => ?_) <;> try (exfalso; omega)
          | refine Wo.geq (fun _ => ?_) (fun _ => ?_) <;> try (exfalso; omega)
          | refine Wo.eql (fun _ => ?_) (fun _ => ?_) <;> try (exfalso; omega)
          | refine Wo.neq (fun _ => ?_) (fun _ => ?_) <;> try (exfalso; omega)
          | refine Wo.seq (fun _ => ?_) (fun _ => ?_)
          | refine Wo.sne (fun _ => ?_) (fun _ => ?_)
          | refine Wo.eqS (fun _ => ?_) (fun _ => ?_)
          | refine Wo.neS (fun _ => ?_) (fun _ => ?_)
          | refine Wo.add ?_
          | refine Wo.sub ?_
          | refine Wo.loadW ?_
          | refine Wo.loadSt ?_
          | refine Wo.load ?_
          | refine Wo.storeW ?_
          | refine Wo.store ?_
          | refine Wo.alloc (fun _ => ?_)
          | refine Wo.box (fun _ => ?_)
          | refine Wo.idxA ?_
          | refine Wo.idx (fun _ _ => ?_)
          | refine Wo.cutHi (fun _ _ => ?_)
          | refine Wo.cutLo (fun _ _ => ?_)
          | refine Wo.cutBoth (fun _ _ => ?_)
          | refine Wo.byteA ?_
          | refine Wo.byte (fun _ _ => ?_)
          | refine Wo.loadEw ?_
          | refine Wo.loadE ?_
          | refine Wo.loadL ?_
          | refine Wo.build ?_
          | refine Wo.clos ?_
          | refine Wo.idxO ?_
          | refine Wo.loadMA ?_
          | refine Wo.loadR ?_
          | refine Wo.loadM (fun _ _ => ?_)
          | refine Wo.row (sz := 1) (fun _ => ?_)
          | refine Wo.row (sz := 2) (fun _ => ?_)
          | refine Wo.row (sz := 4) (fun _ => ?_)
          | refine Wo.row (sz := 5) (fun _ => ?_)
          | refine Wo.makeB (fun _ => ?_)
          | refine Wo.makeI (fun _ => ?_)
          | refine Wo.cutO ?_
          | refine Wo.app1 (fun _ => ?_)
          | refine Wo.storeM ?_
          | refine Wo.row0 ?_
          | refine Wo.len ?_
          | refine Wo.pure ?_
          | refine Wo.shut ?_
          | refine Wo.shut' ?_
          | fail)
      | refine Wx.seq ?_
      | refine Wx.plain ?_
      | (guard_target =~ QX _ _ _ _ _ _ _ _
         first
          | refine Wq.normal ?_
          | refine Wq.exit ?_
          | refine Wq.ret ?_
          | refine Wb.normal ?_
          | refine Wb.hit ?_
          | refine Wb.miss ?_
          | refine Wb.ret ?_
          | refine Wl.ret ?_
          | refine Wl.normal ?_
          | fail)
      | refine Wx.yes ?_
      | refine Wx.no ?_
      | refine Wx.block ?_
      | refine Wx.exit ?_
      | refine Wx.ret ?_
      | refine Wx.skip ?_
      | refine Wx.scope ?_
      | refine Wx.still ?_
      | refine Wx.dyn ?_
      | fail)
    refine Wx.loop [1, 2, 3, 4, 5, 13, 14, 15, 16, 17, 18, 19, 20, 21, 35, 36, 37, 38, 39, 40, 41] [0, 1, 10, 38, 39] (fun (u, z) => [(22, .val (iv 0)), (6, .val (.bool false))]) (fun (u, z) => []) (fun (u, z) => u = 0 ∧ True) (fun (u, z) => 0) (0, 0) ⟨rfl, trivial⟩ (fun a x y hG => ?_)
    obtain ⟨u, z⟩ := a
    obtain ⟨q1, q2⟩ := hG
    dsimp only [List.cons_append, List.nil_append]
    repeat' (first
      | refine Wo.move ?_
      | refine Wo.assign ?_
      | refine Wo.nil ?_
      | refine Wo.nilD ?_
      | (guard_target =~ WX _ _ _ _ _ _ _ _ _ _ _ _
         first
          | refine Wo.lss (fun _ => ?_) (fun _ => ?_) <;> try (exfalso; omega)
          | refine Wo.leq (fun _ => ?_) (fun _ => ?_) <;> try (exfalso; omega)
          | refine Wo.gtr (fun _ => ?_) (fun _ => ?_) <;> try (exfalso; omega)
          | refine Wo.geq (fun _ => ?_) (fun _ => ?_) <;> try (exfalso; omega)
          | refine Wo.eql (fun _ => ?_) (fun _ => ?_) <;> try (exfalso; omega)
          | refine Wo.neq (fun _ => ?_) (fun _ => ?_) <;> try (exfalso; omega)
          | refine Wo.seq (fun _ => ?_) (fun _ => ?_)
          | refine Wo.sne (fun _ => ?_) (fun _ => ?_)
          | refine Wo.eqS (fun _ => ?_) (fun _ => ?_)
          | refine Wo.neS (fun _ => ?_) (fun _ => ?_)
          | refine Wo.add ?_
          | refine Wo.sub ?_
          | refine Wo.loadW ?_
          | refine Wo.loadSt ?_
          | refine Wo.load ?_
          | refine Wo.storeW ?_
          | refine Wo.store ?_
          | refine Wo.alloc (fun _ => ?_)
          | refine Wo.box (fun _ => ?_)
          | refine Wo.idxA ?_
          | refine Wo.idx (fun _ _ => ?_)
          | refine Wo.cutHi (fun _ _ => ?_)
          | refine Wo.cutLo (fun _ _ => ?_)
          | refine Wo.cutBoth (fun _ _ => ?_)
          | refine Wo.byteA ?_
          | refine Wo.byte (fun _ _ => ?_)
          | refine Wo.loadEw ?_
          | refine Wo.loadE ?_
          | refine Wo.loadL ?_
          | refine Wo.build ?_
          | refine Wo.clos ?_
          | refine Wo.idxO ?_
          | refine Wo.loadMA ?_
          | refine Wo.loadR ?_
          | refine Wo.loadM (fun _ _ => ?_)
          | refine Wo.row (sz := 1) (fun _ => ?_)
          | refine Wo.row (sz := 2) (fun _ => ?_)
          | refine Wo.row (sz := 4) (fun _ => ?_)
          | refine Wo.row (sz := 5) (fun _ => ?_)
          | refine Wo.makeB (fun _ => ?_)
          | refine Wo.makeI (fun _ => ?_)
          | refine Wo.cutO ?_
          | refine Wo.app1 (fun _ => ?_)
          | refine Wo.storeM ?_
          | refine Wo.row0 ?_
          | refine Wo.len ?_
          | refine Wo.pure ?_
          | refine Wo.shut ?_
          | refine Wo.shut' ?_
          | fail)
      | refine Wx.seq ?_
      | refine Wx.plain ?_
      | (guard_target =~ QX _ _ _ _ _ _ _ _
         first
          | refine Wq.normal ?_
          | refine Wq.exit ?_
          | refine Wq.ret ?_
          | refine Wb.normal ?_
          | refine Wb.hit ?_
          | refine Wb.miss ?_
          | refine Wb.ret ?_
          | refine Wl.ret ?_
          | refine Wl.normal ?_
          | fail)
      | refine Wx.yes ?_
      | refine Wx.no ?_
      | refine Wx.block ?_
      | refine Wx.exit ?_
      | refine Wx.ret ?_
      | refine Wx.skip ?_
      | refine Wx.scope ?_
      | refine Wx.still ?_
      | refine Wx.dyn ?_
      | fail)
    exact Rd (k + 1) (by omega) ⟨by omega, trivial⟩
  · repeat' (first
      | refine Wo.move ?_
      | refine Wo.assign ?_
      | refine Wo.nil ?_
      | refine Wo.nilD ?_
      | (guard_target =~ WX _ _ _ _ _ _ _ _ _ _ _ _
         first
          | refine Wo.lss (fun _ => ?_) (fun _ => ?_) <;> try (exfalso; omega)
          | refine Wo.leq (fun _ => ?_) (fun _ => ?_) <;> try (exfalso; omega)
          | refine Wo.gtr (fun _ => ?_) (fun _ => ?_) <;> try (exfalso; omega)
          | refine Wo.geq (fun _ => ?_) (fun _ => ?_) <;> try (exfalso; omega)
          | refine Wo.eql (fun _ => ?_) (fun _ => ?_) <;> try (exfalso; omega)
          | refine Wo.neq (fun _ => ?_) (fun _ => ?_) <;> try (exfalso; omega)
          | refine Wo.seq (fun _ => ?_) (fun _ => ?_)
          | refine Wo.sne (fun _ => ?_) (fun _ => ?_)
          | refine Wo.eqS (fun _ => ?_) (fun _ => ?_)
          | refine Wo.neS (fun _ => ?_) (fun _ => ?_)
          | refine Wo.add ?_
          | refine Wo.sub ?_
          | refine Wo.loadW ?_
          | refine Wo.loadSt ?_
          | refine Wo.load ?_
          | refine Wo.storeW ?_
          | refine Wo.store ?_
          | refine Wo.alloc (fun _ => ?_)
          | refine Wo.box (fun _ => ?_)
          | refine Wo.idxA ?_
          | refine Wo.idx (fun _ _ => ?_)
          | refine Wo.cutHi (fun _ _ => ?_)
          | refine Wo.cutLo (fun _ _ => ?_)
          | refine Wo.cutBoth (fun _ _ => ?_)
          | refine Wo.byteA ?_
          | refine Wo.byte (fun _ _ => ?_)
          | refine Wo.loadEw ?_
          | refine Wo.loadE ?_
          | refine Wo.loadL ?_
          | refine Wo.build ?_
          | refine Wo.clos ?_
          | refine Wo.idxO ?_
          | refine Wo.loadMA ?_
          | refine Wo.loadR ?_
          | refine Wo.loadM (fun _ _ => ?_)
          | refine Wo.row (sz := 1) (fun _ => ?_)
          | refine Wo.row (sz := 2) (fun _ => ?_)
          | refine Wo.row (sz := 4) (fun _ => ?_)
          | refine Wo.row (sz := 5) (fun _ => ?_)
          | refine Wo.makeB (fun _ => ?_)
          | refine Wo.makeI (fun _ => ?_)
          | refine Wo.cutO ?_
          | refine Wo.app1 (fun _ => ?_)
          | refine Wo.storeM ?_
          | refine Wo.row0 ?_
          | refine Wo.len ?_
          | refine Wo.pure ?_
          | refine Wo.shut ?_
          | refine Wo.shut' ?_
          | fail)
      | refine Wx.seq ?_
      | refine Wx.plain ?_
      | (guard_target =~ QX _ _ _ _ _ _ _ _
         first
          | refine Wq.normal ?_
          | refine Wq.exit ?_
          | refine Wq.ret ?_
          | refine Wb.normal ?_
          | refine Wb.hit ?_
          | refine Wb.miss ?_
          | refine Wb.ret ?_
          | refine Wl.ret ?_
          | refine Wl.normal ?_
          | fail)
      | refine Wx.yes ?_
      | refine Wx.no ?_
      | refine Wx.block ?_
      | refine Wx.exit ?_
      | refine Wx.ret ?_
      | refine Wx.skip ?_
      | refine Wx.scope ?_
      | refine Wx.still ?_
      | refine Wx.dyn ?_
      | fail)
    rfl
theorem r_RulesReach (t : Tb) (ht : t.ok) (H : Hp) : Runs Try.prog pol 6 [.val (tbV t)] H ([.val (.bool true)], [], H) := by
  cases hR : right' t
  · refine Runs.told (fn := Try.f6) (n := 33) [(0, .val (tbV t))] [(0, .gone 0)] rfl Try.func6 rfl rfl (by kernel_rfl) rfl (by repeat' constructor) (by repeat' constructor) ?_
    repeat' (first
      | refine Wo.move ?_
      | refine Wo.assign ?_
      | refine Wo.nil ?_
      | refine Wo.nilD ?_
      | (guard_target =~ WX _ _ _ _ _ _ _ _ _ _ _ _
         first
          | refine Wo.lss (fun _ => ?_) (fun _ => ?_) <;> try (exfalso; omega)
          | refine Wo.leq (fun _ => ?_) (fun _ => ?_) <;> try (exfalso; omega)
          | refine Wo.gtr (fun _ => ?_) (fun _ => ?_) <;> try (exfalso; omega)
          | refine Wo.geq (fun _ => ?_) (fun _ => ?_) <;> try (exfalso; omega)
          | refine Wo.eql (fun _ => ?_) (fun _ => ?_) <;> try (exfalso; omega)
          | refine Wo.neq (fun _ => ?_) (fun _ => ?_) <;> try (exfalso; omega)
          | refine Wo.seq (fun _ => ?_) (fun _ => ?_)
          | refine Wo.sne (fun _ => ?_) (fun _ => ?_)
          | refine Wo.eqS (fun _ => ?_) (fun _ => ?_)
          | refine Wo.neS (fun _ => ?_) (fun _ => ?_)
          | refine Wo.add ?_
          | refine Wo.sub ?_
          | refine Wo.loadW ?_
          | refine Wo.loadSt ?_
          | refine Wo.load ?_
          | refine Wo.storeW ?_
          | refine Wo.store ?_
          | refine Wo.alloc (fun _ => ?_)
          | refine Wo.box (fun _ => ?_)
          | refine Wo.idxA ?_
          | refine Wo.idx (fun _ _ => ?_)
          | refine Wo.cutHi (fun _ _ => ?_)
          | refine Wo.cutLo (fun _ _ => ?_)
          | refine Wo.cutBoth (fun _ _ => ?_)
          | refine Wo.byteA ?_
          | refine Wo.byte (fun _ _ => ?_)
          | refine Wo.loadEw ?_
          | refine Wo.loadE ?_
          | refine Wo.loadL ?_
          | refine Wo.build ?_
          | refine Wo.clos ?_
          | refine Wo.idxO ?_
          | refine Wo.loadMA ?_
          | refine Wo.loadR ?_
          | refine Wo.loadM (fun _ _ => ?_)
          | refine Wo.row (sz := 1) (fun _ => ?_)
          | refine Wo.row (sz := 2) (fun _ => ?_)
          | refine Wo.row (sz := 4) (fun _ => ?_)
          | refine Wo.row (sz := 5) (fun _ => ?_)
          | refine Wo.makeB (fun _ => ?_)
          | refine Wo.makeI (fun _ => ?_)
          | refine Wo.cutO ?_
          | refine Wo.app1 (fun _ => ?_)
          | refine Wo.storeM ?_
          | refine Wo.row0 ?_
          | refine Wo.callB (r_awake) (fun _ => ?_) (fun _ => ?_)
          | refine Wo.call0 (r_RCheck t ht) ?_
          | refine Wo.call0 (r_Reach0 t ht hR) ?_
          | refine Wo.call0 (r_Dead0 t ht hR) ?_
          | refine Wo.len ?_
          | refine Wo.pure ?_
          | refine Wo.shut ?_
          | refine Wo.shut' ?_
          | fail)
      | refine Wx.seq ?_
      | refine Wx.plain ?_
      | (guard_target =~ QX _ _ _ _ _ _ _ _
         first
          | refine Wq.normal ?_
          | refine Wq.exit ?_
          | refine Wq.ret ?_
          | refine Wb.normal ?_
          | refine Wb.hit ?_
          | refine Wb.miss ?_
          | refine Wb.ret ?_
          | refine Wl.ret ?_
          | refine Wl.normal ?_
          | fail)
      | refine Wx.yes ?_
      | refine Wx.no ?_
      | refine Wx.block ?_
      | refine Wx.exit ?_
      | refine Wx.ret ?_
      | refine Wx.skip ?_
      | refine Wx.scope ?_
      | refine Wx.still ?_
      | refine Wx.dyn ?_
      | fail)
    all_goals first
      | rfl
      | (exfalso; have h : right' t = true := by assumption
         rw [hR] at h; cases h; done)
      | (exfalso; rename_i h; cases h; done)
      | trace_state
  · refine Runs.told (fn := Try.f6) (n := 33) [(0, .val (tbV t))] [(0, .gone 0)] rfl Try.func6 rfl rfl (by kernel_rfl) rfl (by repeat' constructor) (by repeat' constructor) ?_
    have hst := right_states hR
    have hbo := r_Bools (some (reach' t)) (some (reach' t)) rfl (by show (reach' t).length ≤ _; rw [reach_lenD]; omega)
    have hdl : (deadL t t.rules.list.length).length ≤ 9223372036854775807 := Nat.le_trans deadL_len (by omega)
    have hde := r_Dead t ht hR
    have hrd := r_RDead t ht hR
    cases hdn : deadL t t.rules.list.length with
    | nil =>
      rw [deadR_nil hdn] at hde hrd
      have hin := r_Ints none none rfl (by simp [Sl.ok, Sl.list])
      repeat' (first
        | refine Wo.move ?_
        | refine Wo.assign ?_
        | refine Wo.nil ?_
        | refine Wo.nilD ?_
        | (guard_target =~ WX _ _ _ _ _ _ _ _ _ _ _ _
           first
            | refine Wo.lss (fun _ => ?_) (fun _ => ?_) <;> try (exfalso; omega)
            | refine Wo.leq (fun _ => ?_) (fun _ => ?_) <;> try (exfalso; omega)
            | refine Wo.gtr (fun _ => ?_) (fun _ => ?_) <;> try (exfalso; omega)
            | refine Wo.geq (fun _ => ?_) (fun _ => ?_) <;> try (exfalso; omega)
            | refine Wo.eql (fun _ => ?_) (fun _ => ?_) <;> try (exfalso; omega)
            | refine Wo.neq (fun _ => ?_) (fun _ => ?_) <;> try (exfalso; omega)
            | refine Wo.seq (fun _ => ?_) (fun _ => ?_)
            | refine Wo.sne (fun _ => ?_) (fun _ => ?_)
            | refine Wo.eqS (fun _ => ?_) (fun _ => ?_)
            | refine Wo.neS (fun _ => ?_) (fun _ => ?_)
            | refine Wo.add ?_
            | refine Wo.sub ?_
            | refine Wo.loadW ?_
            | refine Wo.loadSt ?_
            | refine Wo.load ?_
            | refine Wo.storeW ?_
            | refine Wo.store ?_
            | refine Wo.alloc (fun _ => ?_)
            | refine Wo.box (fun _ => ?_)
            | refine Wo.idxA ?_
            | refine Wo.idx (fun _ _ => ?_)
            | refine Wo.cutHi (fun _ _ => ?_)
            | refine Wo.cutLo (fun _ _ => ?_)
            | refine Wo.cutBoth (fun _ _ => ?_)
            | refine Wo.byteA ?_
            | refine Wo.byte (fun _ _ => ?_)
            | refine Wo.loadEw ?_
            | refine Wo.loadE ?_
            | refine Wo.loadL ?_
            | refine Wo.build ?_
            | refine Wo.clos ?_
            | refine Wo.idxO ?_
            | refine Wo.loadMA ?_
            | refine Wo.loadR ?_
            | refine Wo.loadM (fun _ _ => ?_)
            | refine Wo.row (sz := 1) (fun _ => ?_)
            | refine Wo.row (sz := 2) (fun _ => ?_)
            | refine Wo.row (sz := 4) (fun _ => ?_)
            | refine Wo.row (sz := 5) (fun _ => ?_)
            | refine Wo.makeB (fun _ => ?_)
            | refine Wo.makeI (fun _ => ?_)
            | refine Wo.cutO ?_
            | refine Wo.app1 (fun _ => ?_)
            | refine Wo.storeM ?_
            | refine Wo.row0 ?_
            | refine Wo.callB (r_awake) (fun _ => ?_) (fun _ => ?_)
            | refine Wo.call0 (r_RCheck t ht) ?_
            | refine Wo.call0 (hde) ?_
            | refine Wo.call0 (hrd) ?_
            | refine Wo.callB (hin) (fun _ => ?_) (fun _ => ?_)
            | refine Wo.callO (r_Reach t ht hR) (fun _ => ?_)
            | refine Wo.callO (r_RReach t ht hR) (fun _ => ?_)
            | refine Wo.callGV hbo ?_
            | refine Wo.len ?_
            | refine Wo.pure ?_
            | refine Wo.shut ?_
            | refine Wo.shut' ?_
            | fail)
        | refine Wx.seq ?_
        | refine Wx.plain ?_
        | (guard_target =~ QX _ _ _ _ _ _ _ _
           first
            | refine Wq.normal ?_
            | refine Wq.exit ?_
            | refine Wq.ret ?_
            | refine Wb.normal ?_
            | refine Wb.hit ?_
            | refine Wb.miss ?_
            | refine Wb.ret ?_
            | refine Wl.ret ?_
            | refine Wl.normal ?_
            | fail)
        | refine Wx.yes ?_
        | refine Wx.no ?_
        | refine Wx.block ?_
        | refine Wx.exit ?_
        | refine Wx.ret ?_
        | refine Wx.skip ?_
        | refine Wx.scope ?_
        | refine Wx.still ?_
        | refine Wx.dyn ?_
        | fail)
      all_goals first
        | rfl
        | (exfalso; have h : right' t = false := by assumption
           rw [hR] at h; cases h; done)
        | (exfalso; rename_i h; cases h; done)
        | trace_state
    | cons a l =>
      have hne : deadL t t.rules.list.length ≠ [] := by rw [hdn]; simp
      rw [deadR_own hne] at hde hrd
      have hin := r_Ints (some (deadL t t.rules.list.length)) (some (deadL t t.rules.list.length)) rfl hdl
      repeat' (first
        | refine Wo.move ?_
        | refine Wo.assign ?_
        | refine Wo.nil ?_
        | refine Wo.nilD ?_
        | (guard_target =~ WX _ _ _ _ _ _ _ _ _ _ _ _
           first
            | refine Wo.lss (fun _ => ?_) (fun _ => ?_) <;> try (exfalso; omega)
            | refine Wo.leq (fun _ => ?_) (fun _ => ?_) <;> try (exfalso; omega)
            | refine Wo.gtr (fun _ => ?_) (fun _ => ?_) <;> try (exfalso; omega)
            | refine Wo.geq (fun _ => ?_) (fun _ => ?_) <;> try (exfalso; omega)
            | refine Wo.eql (fun _ => ?_) (fun _ => ?_) <;> try (exfalso; omega)
            | refine Wo.neq (fun _ => ?_) (fun _ => ?_) <;> try (exfalso; omega)
            | refine Wo.seq (fun _ => ?_) (fun _ => ?_)
            | refine Wo.sne (fun _ => ?_) (fun _ => ?_)
            | refine Wo.eqS (fun _ => ?_) (fun _ => ?_)
            | refine Wo.neS (fun _ => ?_) (fun _ => ?_)
            | refine Wo.add ?_
            | refine Wo.sub ?_
            | refine Wo.loadW ?_
            | refine Wo.loadSt ?_
            | refine Wo.load ?_
            | refine Wo.storeW ?_
            | refine Wo.store ?_
            | refine Wo.alloc (fun _ => ?_)
            | refine Wo.box (fun _ => ?_)
            | refine Wo.idxA ?_
            | refine Wo.idx (fun _ _ => ?_)
            | refine Wo.cutHi (fun _ _ => ?_)
            | refine Wo.cutLo (fun _ _ => ?_)
            | refine Wo.cutBoth (fun _ _ => ?_)
            | refine Wo.byteA ?_
            | refine Wo.byte (fun _ _ => ?_)
            | refine Wo.loadEw ?_
            | refine Wo.loadE ?_
            | refine Wo.loadL ?_
            | refine Wo.build ?_
            | refine Wo.clos ?_
            | refine Wo.idxO ?_
            | refine Wo.loadMA ?_
            | refine Wo.loadR ?_
            | refine Wo.loadM (fun _ _ => ?_)
            | refine Wo.row (sz := 1) (fun _ => ?_)
            | refine Wo.row (sz := 2) (fun _ => ?_)
            | refine Wo.row (sz := 4) (fun _ => ?_)
            | refine Wo.row (sz := 5) (fun _ => ?_)
            | refine Wo.makeB (fun _ => ?_)
            | refine Wo.makeI (fun _ => ?_)
            | refine Wo.cutO ?_
            | refine Wo.app1 (fun _ => ?_)
            | refine Wo.storeM ?_
            | refine Wo.row0 ?_
            | refine Wo.callB (r_awake) (fun _ => ?_) (fun _ => ?_)
            | refine Wo.call0 (r_RCheck t ht) ?_
            | refine Wo.callO (r_Reach t ht hR) (fun _ => ?_)
            | refine Wo.callO (r_RReach t ht hR) (fun _ => ?_)
            | refine Wo.callO hde (fun _ => ?_)
            | refine Wo.callO hrd (fun _ => ?_)
            | refine Wo.callGV hbo ?_
            | refine Wo.callGV hin ?_
            | refine Wo.len ?_
            | refine Wo.pure ?_
            | refine Wo.shut ?_
            | refine Wo.shut' ?_
            | fail)
        | refine Wx.seq ?_
        | refine Wx.plain ?_
        | (guard_target =~ QX _ _ _ _ _ _ _ _
           first
            | refine Wq.normal ?_
            | refine Wq.exit ?_
            | refine Wq.ret ?_
            | refine Wb.normal ?_
            | refine Wb.hit ?_
            | refine Wb.miss ?_
            | refine Wb.ret ?_
            | refine Wl.ret ?_
            | refine Wl.normal ?_
            | fail)
        | refine Wx.yes ?_
        | refine Wx.no ?_
        | refine Wx.block ?_
        | refine Wx.exit ?_
        | refine Wx.ret ?_
        | refine Wx.skip ?_
        | refine Wx.scope ?_
        | refine Wx.still ?_
        | refine Wx.dyn ?_
        | fail)
      all_goals first
        | rfl
        | (exfalso; have h : right' t = false := by assumption
           rw [hR] at h; cases h; done)
        | (exfalso; rename_i h; cases h; done)
        | trace_state
end Go.Vi.CYtdfhbmallnegfaa
