/-
  A table without one of its rules: the walk of the law.
-/
import Derived.Test.YtdfhbmallnegfaaCxI
import Derived.Test.YtdfhbmallnegfaaCxJ
import Derived.Test.YtdfhbmallnegfaaV3
namespace Go.Vi.CYtdfhbmallnegfaa
open Go.Vi Go.Proofs Go.Proofs.Ytdfhbmallnegfaa
set_option linter.unusedVariables false
set_option maxHeartbeats 8000000
set_option maxRecDepth 100000
set_option linter.unusedSimpArgs false

theorem okElem_rl (a : Rl) : okElem 5 (rlV a) = true := by
  obtain ⟨nm, ar, fr, gs, st⟩ := a
  cases fr <;> cases gs <;> cases st <;> rfl

theorem r_RulesLess (t : Tb) (n : Int) (ht : t.ok) (hw : w64 n) (H : Hp) : Runs Try.prog pol 5 [.val (tbV t), .val (iv n)] H ([.val (.bool true)], [], H) := by
  by_cases hz : (check' t).z = true ∧ 0 ≤ n ∧ n < t.rules.list.length
  · obtain ⟨hR, h0, hn⟩ := hz
    have hR : right' t = true := hR
    have hst := right_states hR
    have hn' : n.toNat < t.rules.list.length := by omega
    have hRu := less_right hR hn'
    have hu : (less t n.toNat).ok := less_ok ht
    have hlen1 : ((reach' t).map VV.bool).length = t.states.list.length := by rw [List.length_map, reach_len]
    have hlen2 : ((reach' (less t n.toNat)).map VV.bool).length = t.states.list.length := by rw [List.length_map, reach_len]; rfl
    have hlen3 : (less t n.toNat).rules.list.length = t.rules.list.length - 1 := less_len hn'
    refine Runs.told (fn := Try.f5) (n := 75) [(0, .val (tbV t)), (1, .val (iv n))] [(0, .gone 0), (1, .gone 0)] rfl Try.func5 rfl rfl (by kernel_rfl) rfl (by repeat' constructor) (by repeat' constructor) ?_
    repeat' (first
      | refine Wo.move ?_
      | refine Wo.assign ?_
      | refine Wo.nil ?_
      | refine Wo.nilD ?_
      | (guard_target =~ WX _ _ _ _ _ _ _ _ _ _ _ _
         first
          | refine Wo.lss (fun _ => ?_) (fun _ => ?_) <;> try (exfalso; omega)
          | refine Wo.leq (fun _ => ?_) (fun _ => ?_) <;> try (exfalso; omega)
          | refine Wo.gtr (fun _ => ?_) (fun _ => ?_) <;> try (exfalso; omega)
          | refine Wo.geq (fun _ => ?_) (fun _ => ?_) <;> try (exfalso; omega)
          | refine Wo.eql (fun _ => ?_) (fun _ => ?_) <;> try (exfalso; omega)
          | refine Wo.neq (fun _ => ?_) (fun _ => ?_) <;> try (exfalso; omega)
          | refine Wo.seq (fun _ => ?_) (fun _ => ?_)
          | refine Wo.sne (fun _ => ?_) (fun _ => ?_)
          | refine Wo.eqS (fun _ => ?_) (fun _ => ?_)
          | refine Wo.neS (fun _ => ?_) (fun _ => ?_)
          | refine Wo.add ?_
          | refine Wo.sub ?_
          | refine Wo.loadW ?_
          | refine Wo.loadSt ?_
          | refine Wo.load ?_
          | refine Wo.storeW ?_
          | refine Wo.store ?_
          | refine Wo.alloc (fun _ => ?_)
          | refine Wo.box (fun _ => ?_)
          | refine Wo.idxA ?_
          | refine Wo.idx (fun _ _ => ?_)
          | refine Wo.cutHi (fun _ _ => ?_)
          | refine Wo.cutLo (fun _ _ => ?_)
          | refine Wo.cutBoth (fun _ _ => ?_)
          | refine Wo.byteA ?_
          | refine Wo.byte (fun _ _ => ?_)
          | refine Wo.loadEw ?_
          | refine Wo.loadE ?_
          | refine Wo.loadL ?_
          | refine Wo.build ?_
          | refine Wo.clos ?_
          | refine Wo.idxO ?_
          | refine Wo.loadMA ?_
          | refine Wo.loadR ?_
          | refine Wo.loadM (fun _ _ => ?_)
          | refine Wo.row (sz := 1) (fun _ => ?_)
          | refine Wo.row (sz := 2) (fun _ => ?_)
          | refine Wo.row (sz := 4) (fun _ => ?_)
          | refine Wo.row (sz := 5) (fun _ => ?_)
          | refine Wo.makeB (fun _ => ?_)
          | refine Wo.makeI (fun _ => ?_)
          | refine Wo.cutO ?_
          | refine Wo.app1 (fun _ => ?_)
          | refine Wo.storeM ?_
          | refine Wo.row0 ?_
          | refine Wo.callB (r_awake) (fun _ => ?_) (fun _ => ?_)
          | refine Wo.call0 (r_Check t ht) ?_
          | refine Wo.len ?_
          | refine Wo.pure ?_
          | refine Wo.shut ?_
          | refine Wo.shut' ?_
          | fail)
      | refine Wx.seq ?_
      | refine Wx.plain ?_
      | (guard_target =~ QX _ _ _ _ _ _ _ _
         first
          | refine Wq.normal ?_
          | refine Wq.exit ?_
          | refine Wq.ret ?_
          | refine Wb.normal ?_
          | refine Wb.hit ?_
          | refine Wb.miss ?_
          | refine Wb.ret ?_
          | refine Wl.ret ?_
          | refine Wl.normal ?_
          | fail)
      | refine Wx.yes ?_
      | refine Wx.no ?_
      | refine Wx.block ?_
      | refine Wx.exit ?_
      | refine Wx.ret ?_
      | refine Wx.skip ?_
      | refine Wx.scope ?_
      | refine Wx.still ?_
      | refine Wx.dyn ?_
      | fail)
    all_goals first
      | rfl
      | (exfalso; rename_i hc; revert hc; rw [show ((check' t).e == 0 && ((check' t).r == 0 && ((check' t).p == 0 && ((check' t).a == 0 && true)))) = true from hR]; simp; done)
      | (exfalso; simp_all; done)
      | skip
    rename_i s2 hs2
    have hl2 : s2.list.length = n.toNat := by rw [hs2, List.length_take]; omega
    refine Wo.appF (fun g2 _ hne => ?_) (fun hem => ?_) (hnew := okElem_rl)
    · repeat' (first
        | refine Wo.move ?_
        | refine Wo.assign ?_
        | refine Wo.nil ?_
        | refine Wo.nilD ?_
        | (guard_target =~ WX _ _ _ _ _ _ _ _ _ _ _ _
           first
            | refine Wo.lss (fun _ => ?_) (fun _ => ?_) <;> try (exfalso; omega)
            | refine Wo.leq (fun _ => ?_) (fun _ => ?_) <;> try (exfalso; omega)
            | refine Wo.gtr (fun _ => ?_) (fun _ => ?_) <;> try (exfalso; omega)
            | refine Wo.geq (fun _ => ?_) (fun _ => ?_) <;> try (exfalso; omega)
            | refine Wo.eql (fun _ => ?_) (fun _ => ?_) <;> try (exfalso; omega)
            | refine Wo.neq (fun _ => ?_) (fun _ => ?_) <;> try (exfalso; omega)
            | refine Wo.seq (fun _ => ?_) (fun _ => ?_)
            | refine Wo.sne (fun _ => ?_) (fun _ => ?_)
            | refine Wo.eqS (fun _ => ?_) (fun _ => ?_)
            | refine Wo.neS (fun _ => ?_) (fun _ => ?_)
            | refine Wo.add ?_
            | refine Wo.sub ?_
            | refine Wo.loadW ?_
            | refine Wo.loadSt ?_
            | refine Wo.load ?_
            | refine Wo.storeW ?_
            | refine Wo.store ?_
            | refine Wo.alloc (fun _ => ?_)
            | refine Wo.box (fun _ => ?_)
            | refine Wo.idxA ?_
            | refine Wo.idx (fun _ _ => ?_)
            | refine Wo.cutHi (fun _ _ => ?_)
            | refine Wo.cutLo (fun _ _ => ?_)
            | refine Wo.cutBoth (fun _ _ => ?_)
            | refine Wo.byteA ?_
            | refine Wo.byte (fun _ _ => ?_)
            | refine Wo.loadEw ?_
            | refine Wo.loadE ?_
            | refine Wo.loadL ?_
            | refine Wo.build ?_
            | refine Wo.clos ?_
            | refine Wo.idxO ?_
            | refine Wo.loadMA ?_
            | refine Wo.loadR ?_
            | refine Wo.loadM (fun _ _ => ?_)
            | refine Wo.row (sz := 1) (fun _ => ?_)
            | refine Wo.row (sz := 2) (fun _ => ?_)
            | refine Wo.row (sz := 4) (fun _ => ?_)
            | refine Wo.row (sz := 5) (fun _ => ?_)
            | refine Wo.makeB (fun _ => ?_)
            | refine Wo.makeI (fun _ => ?_)
            | refine Wo.cutO ?_
            | refine Wo.app1 (fun _ => ?_)
            | refine Wo.storeM ?_
            | refine Wo.row0 ?_
            | refine Wo.len ?_
            | refine Wo.pure ?_
            | refine Wo.shut ?_
            | refine Wo.shut' ?_
            | fail)
        | refine Wx.seq ?_
        | refine Wx.plain ?_
        | (guard_target =~ QX _ _ _ _ _ _ _ _
           first
            | refine Wq.normal ?_
            | refine Wq.exit ?_
            | refine Wq.ret ?_
            | refine Wb.normal ?_
            | refine Wb.hit ?_
            | refine Wb.miss ?_
            | refine Wb.ret ?_
            | refine Wl.ret ?_
            | refine Wl.normal ?_
            | fail)
        | refine Wx.yes ?_
        | refine Wx.no ?_
        | refine Wx.block ?_
        | refine Wx.exit ?_
        | refine Wx.ret ?_
        | refine Wx.skip ?_
        | refine Wx.scope ?_
        | refine Wx.still ?_
        | refine Wx.dyn ?_
        | fail)
      rename_i s3 hs3
      have hl3 : s3.list.length = t.rules.list.length - (n.toNat + 1) := by rw [hs3, List.length_drop]; omega
      refine Wo.appS (fun g3 => ?_) (hnew := okElem_rl)
      have hL : s2.list.take s2.list.length ++ s3.list = (less t n.toNat).rules.list := by
        rw [List.take_length, hs2, hs3, less_rules, show (n + 1).toNat = n.toNat + 1 by omega]
      rw [hL]
      have hl4 : s2.list.length + s3.list.length = (less t n.toNat).rules.list.length := by omega
      repeat' (first
        | refine Wo.move ?_
        | refine Wo.assign ?_
        | refine Wo.nil ?_
        | refine Wo.nilD ?_
        | (guard_target =~ WX _ _ _ _ _ _ _ _ _ _ _ _
           first
            | refine Wo.lss (fun _ => ?_) (fun _ => ?_) <;> try (exfalso; omega)
            | refine Wo.leq (fun _ => ?_) (fun _ => ?_) <;> try (exfalso; omega)
            | refine Wo.gtr (fun _ => ?_) (fun _ => ?_) <;> try (exfalso; omega)
            | refine Wo.geq (fun _ => ?_) (fun _ => ?_) <;> try (exfalso; omega)
            | refine Wo.eql (fun _ => ?_) (fun _ => ?_) <;> try (exfalso; omega)
            | refine Wo.neq (fun _ => ?_) (fun _ => ?_) <;> try (exfalso; omega)
            | refine Wo.seq (fun _ => ?_) (fun _ => ?_)
            | refine Wo.sne (fun _ => ?_) (fun _ => ?_)
            | refine Wo.eqS (fun _ => ?_) (fun _ => ?_)
            | refine Wo.neS (fun _ => ?_) (fun _ => ?_)
            | refine Wo.add ?_
            | refine Wo.sub ?_
            | refine Wo.loadW ?_
            | refine Wo.loadSt ?_
            | refine Wo.load ?_
            | refine Wo.storeW ?_
            | refine Wo.store ?_
            | refine Wo.alloc (fun _ => ?_)
            | refine Wo.box (fun _ => ?_)
            | refine Wo.idxA ?_
            | refine Wo.idx (fun _ _ => ?_)
            | refine Wo.cutHi (fun _ _ => ?_)
            | refine Wo.cutLo (fun _ _ => ?_)
            | refine Wo.cutBoth (fun _ _ => ?_)
            | refine Wo.byteA ?_
            | refine Wo.byte (fun _ _ => ?_)
            | refine Wo.loadEw ?_
            | refine Wo.loadE ?_
            | refine Wo.loadL ?_
            | refine Wo.build ?_
            | refine Wo.clos ?_
            | refine Wo.idxO ?_
            | refine Wo.loadMA ?_
            | refine Wo.loadR ?_
            | refine Wo.loadM (fun _ _ => ?_)
            | refine Wo.row (sz := 1) (fun _ => ?_)
            | refine Wo.row (sz := 2) (fun _ => ?_)
            | refine Wo.row (sz := 4) (fun _ => ?_)
            | refine Wo.row (sz := 5) (fun _ => ?_)
            | refine Wo.makeB (fun _ => ?_)
            | refine Wo.makeI (fun _ => ?_)
            | refine Wo.cutO ?_
            | refine Wo.app1 (fun _ => ?_)
            | refine Wo.storeM ?_
            | refine Wo.row0 ?_
            | refine Wo.callO (r_Reach t ht hR) (fun _ => ?_)
            | refine Wo.callGO (r_Reach (less t n.toNat) hu hRu) (fun _ => ?_)
            | refine Wo.callGV (r_Check (less t n.toNat) hu) ?_
            | refine Wo.len ?_
            | refine Wo.pure ?_
            | refine Wo.shut ?_
            | refine Wo.shut' ?_
            | fail)
        | refine Wx.seq ?_
        | refine Wx.plain ?_
        | (guard_target =~ QX _ _ _ _ _ _ _ _
           first
            | refine Wq.normal ?_
            | refine Wq.exit ?_
            | refine Wq.ret ?_
            | refine Wb.normal ?_
            | refine Wb.hit ?_
            | refine Wb.miss ?_
            | refine Wb.ret ?_
            | refine Wl.ret ?_
            | refine Wl.normal ?_
            | fail)
        | refine Wx.yes ?_
        | refine Wx.no ?_
        | refine Wx.block ?_
        | refine Wx.exit ?_
        | refine Wx.ret ?_
        | refine Wx.skip ?_
        | refine Wx.scope ?_
        | refine Wx.still ?_
        | refine Wx.dyn ?_
        | fail)
      all_goals first
        | (exfalso; rename_i hc; revert hc; rw [show ((check' (less t n.toNat)).e == 0 && ((check' (less t n.toNat)).r == 0 && ((check' (less t n.toNat)).p == 0 && ((check' (less t n.toNat)).a == 0 && true)))) = true from hRu]; simp; done)
        | skip
      refine Wx.loop [6, 7] [0, 1, 2, 5, 9, 13, 28, 30, 35, 41, 44, 46, 48] (fun k => [(8, .val (iv (k : Nat)))]) (fun k => []) (fun k => k ≤ t.states.list.length ∧ True) (fun k => t.states.list.length - k) 0 ⟨Nat.zero_le _, trivial⟩ (fun k x y hG => ?_)
      obtain ⟨h1, h2⟩ := hG
      dsimp only [List.cons_append, List.nil_append]
      rcases Nat.lt_or_ge k t.states.list.length with hk | hk
      · obtain ⟨za, hza⟩ := at_some (show 0 + ((k : Nat) : Int).toNat < (reach' t).length by rw [reach_len]; omega)
        obtain ⟨zb, hzb⟩ := at_some (show 0 + ((k : Nat) : Int).toNat < (reach' (less t n.toNat)).length by rw [reach_len]; show _ < t.states.list.length; omega)
        cases zb <;> cases za
        · repeat' (first
            | refine Wo.move ?_
            | refine Wo.assign ?_
            | refine Wo.nil ?_
            | refine Wo.nilD ?_
            | (guard_target =~ WX _ _ _ _ _ _ _ _ _ _ _ _
               first
                | refine Wo.lss (fun _ => ?_) (fun _ => ?_) <;> try (exfalso; omega)
                | refine Wo.leq (fun _ => ?_) (fun _ => ?_) <;> try (exfalso; omega)
                | refine Wo.gtr (fun _ => ?_) (fun _ => ?_) <;> try (exfalso; omega)
                | refine Wo.geq (fun _ => ?_) (fun _ => ?_) <;> try (exfalso; omega)
                | refine Wo.eql (fun _ => ?_) (fun _ => ?_) <;> try (exfalso; omega)
                | refine Wo.neq (fun _ => ?_) (fun _ => ?_) <;> try (exfalso; omega)
                | refine Wo.seq (fun _ => ?_) (fun _ => ?_)
                | refine Wo.sne (fun _ => ?_) (fun _ => ?_)
                | refine Wo.eqS (fun _ => ?_) (fun _ => ?_)
                | refine Wo.neS (fun _ => ?_) (fun _ => ?_)
                | refine Wo.add ?_
                | refine Wo.sub ?_
                | refine Wo.loadW ?_
                | refine Wo.loadSt ?_
                | refine Wo.load ?_
                | refine Wo.storeW ?_
                | refine Wo.store ?_
                | refine Wo.alloc (fun _ => ?_)
                | refine Wo.box (fun _ => ?_)
                | refine Wo.idxA ?_
                | refine Wo.idx (fun _ _ => ?_)
                | refine Wo.cutHi (fun _ _ => ?_)
                | refine Wo.cutLo (fun _ _ => ?_)
                | refine Wo.cutBoth (fun _ _ => ?_)
                | refine Wo.byteA ?_
                | refine Wo.byte (fun _ _ => ?_)
                | refine Wo.loadEw ?_
                | refine Wo.loadE ?_
                | refine Wo.loadL ?_
                | refine Wo.build ?_
                | refine Wo.clos ?_
                | refine Wo.idxO ?_
                | refine Wo.loadMA ?_
                | refine Wo.loadR ?_
                | refine Wo.loadM (fun _ _ => ?_)
                | refine Wo.row (sz := 1) (fun _ => ?_)
                | refine Wo.row (sz := 2) (fun _ => ?_)
                | refine Wo.row (sz := 4) (fun _ => ?_)
                | refine Wo.row (sz := 5) (fun _ => ?_)
                | refine Wo.makeB (fun _ => ?_)
                | refine Wo.makeI (fun _ => ?_)
                | refine Wo.cutO ?_
                | refine Wo.app1 (fun _ => ?_)
                | refine Wo.storeM ?_
                | refine Wo.row0 ?_
                | refine Wo.len ?_
                | refine Wo.pure ?_
                | refine Wo.shut ?_
                | refine Wo.shut' ?_
                | fail)
            | refine Wx.seq ?_
            | refine Wx.plain ?_
            | (guard_target =~ QX _ _ _ _ _ _ _ _
               first
                | refine Wq.normal ?_
                | refine Wq.exit ?_
                | refine Wq.ret ?_
                | refine Wb.normal ?_
                | refine Wb.hit ?_
                | refine Wb.miss ?_
                | refine Wb.ret ?_
                | refine Wl.ret ?_
                | refine Wl.normal ?_
                | fail)
            | refine Wx.yes ?_
            | refine Wx.no ?_
            | refine Wx.block ?_
            | refine Wx.exit ?_
            | refine Wx.ret ?_
            | refine Wx.skip ?_
            | refine Wx.scope ?_
            | refine Wx.still ?_
            | refine Wx.dyn ?_
            | fail)
          exact Rd (k + 1) (by omega) ⟨by omega, trivial⟩
        · repeat' (first
            | refine Wo.move ?_
            | refine Wo.assign ?_
            | refine Wo.nil ?_
            | refine Wo.nilD ?_
            | (guard_target =~ WX _ _ _ _ _ _ _ _ _ _ _ _
               first
                | refine Wo.lss (fun _ => ?_) (fun _ => ?_) <;> try (exfalso; omega)
                | refine Wo.leq (fun _ => ?_) (fun _ => ?_) <;> try (exfalso; omega)
                | refine Wo.gtr (fun _ => ?_) (fun _ => ?_) <;> try (exfalso; omega)
                | refine Wo.geq (fun _ => ?_) (fun _ => ?_) <;> try (exfalso; omega)
                | refine Wo.eql (fun _ => ?_) (fun _ => ?_) <;> try (exfalso; omega)
                | refine Wo.neq (fun _ => ?_) (fun _ => ?_) <;> try (exfalso; omega)
                | refine Wo.seq (fun _ => ?_) (fun _ => ?_)
                | refine Wo.sne (fun _ => ?_) (fun _ => ?_)
                | refine Wo.eqS (fun _ => ?_) (fun _ => ?_)
                | refine Wo.neS (fun _ => ?_) (fun _ => ?_)
                | refine Wo.add ?_
                | refine Wo.sub ?_
                | refine Wo.loadW ?_
                | refine Wo.loadSt ?_
                | refine Wo.load ?_
                | refine Wo.storeW ?_
                | refine Wo.store ?_
                | refine Wo.alloc (fun _ => ?_)
                | refine Wo.box (fun _ => ?_)
                | refine Wo.idxA ?_
                | refine Wo.idx (fun _ _ => ?_)
                | refine Wo.cutHi (fun _ _ => ?_)
                | refine Wo.cutLo (fun _ _ => ?_)
                | refine Wo.cutBoth (fun _ _ => ?_)
                | refine Wo.byteA ?_
                | refine Wo.byte (fun _ _ => ?_)
                | refine Wo.loadEw ?_
                | refine Wo.loadE ?_
                | refine Wo.loadL ?_
                | refine Wo.build ?_
                | refine Wo.clos ?_
                | refine Wo.idxO ?_
                | refine Wo.loadMA ?_
                | refine Wo.loadR ?_
                | refine Wo.loadM (fun _ _ => ?_)
                | refine Wo.row (sz := 1) (fun _ => ?_)
                | refine Wo.row (sz := 2) (fun _ => ?_)
                | refine Wo.row (sz := 4) (fun _ => ?_)
                | refine Wo.row (sz := 5) (fun _ => ?_)
                | refine Wo.makeB (fun _ => ?_)
                | refine Wo.makeI (fun _ => ?_)
                | refine Wo.cutO ?_
                | refine Wo.app1 (fun _ => ?_)
                | refine Wo.storeM ?_
                | refine Wo.row0 ?_
                | refine Wo.len ?_
                | refine Wo.pure ?_
                | refine Wo.shut ?_
                | refine Wo.shut' ?_
                | fail)
            | refine Wx.seq ?_
            | refine Wx.plain ?_
            | (guard_target =~ QX _ _ _ _ _ _ _ _
               first
                | refine Wq.normal ?_
                | refine Wq.exit ?_
                | refine Wq.ret ?_
                | refine Wb.normal ?_
                | refine Wb.hit ?_
                | refine Wb.miss ?_
                | refine Wb.ret ?_
                | refine Wl.ret ?_
                | refine Wl.normal ?_
                | fail)
            | refine Wx.yes ?_
            | refine Wx.no ?_
            | refine Wx.block ?_
            | refine Wx.exit ?_
            | refine Wx.ret ?_
            | refine Wx.skip ?_
            | refine Wx.scope ?_
            | refine Wx.still ?_
            | refine Wx.dyn ?_
            | fail)
          exact Rd (k + 1) (by omega) ⟨by omega, trivial⟩
        · repeat' (first
            | refine Wo.move ?_
            | refine Wo.assign ?_
            | refine Wo.nil ?_
            | refine Wo.nilD ?_
            | (guard_target =~ WX _ _ _ _ _ _ _ _ _ _ _ _
               first
                | refine Wo.lss (fun _ => ?_) (fun _ => ?_) <;> try (exfalso; omega)
                | refine Wo.leq (fun _ => ?_) (fun _ => ?_) <;> try (exfalso; omega)
                | refine Wo.gtr (fun _ => ?_) (fun _ => ?_) <;> try (exfalso; omega)
                | refine Wo.geq (fun _ => ?_) (fun _ => ?_) <;> try (exfalso; omega)
                | refine Wo.eql (fun _ => ?_) (fun _ => ?_) <;> try (exfalso; omega)
                | refine Wo.neq (fun _ => ?_) (fun _ => ?_) <;> try (exfalso; omega)
                | refine Wo.seq (fun _ => ?_) (fun _ => ?_)
                | refine Wo.sne (fun _ => ?_) (fun _ => ?_)
                | refine Wo.eqS (fun _ => ?_) (fun _ => ?_)
                | refine Wo.neS (fun _ => ?_) (fun _ => ?_)
                | refine Wo.add ?_
                | refine Wo.sub ?_
                | refine Wo.loadW ?_
                | refine Wo.loadSt ?_
                | refine Wo.load ?_
                | refine Wo.storeW ?_
                | refine Wo.store ?_
                | refine Wo.alloc (fun _ => ?_)
                | refine Wo.box (fun _ => ?_)
                | refine Wo.idxA ?_
                | refine Wo.idx (fun _ _ => ?_)
                | refine Wo.cutHi (fun _ _ => ?_)
                | refine Wo.cutLo (fun _ _ => ?_)
                | refine Wo.cutBoth (fun _ _ => ?_)
                | refine Wo.byteA ?_
                | refine Wo.byte (fun _ _ => ?_)
                | refine Wo.loadEw ?_
                | refine Wo.loadE ?_
                | refine Wo.loadL ?_
                | refine Wo.build ?_
                | refine Wo.clos ?_
                | refine Wo.idxO ?_
                | refine Wo.loadMA ?_
                | refine Wo.loadR ?_
                | refine Wo.loadM (fun _ _ => ?_)
                | refine Wo.row (sz := 1) (fun _ => ?_)
                | refine Wo.row (sz := 2) (fun _ => ?_)
                | refine Wo.row (sz := 4) (fun _ => ?_)
                | refine Wo.row (sz := 5) (fun _ => ?_)
                | refine Wo.makeB (fun _ => ?_)
                | refine Wo.makeI (fun _ => ?_)
                | refine Wo.cutO ?_
                | refine Wo.app1 (fun _ => ?_)
                | refine Wo.storeM ?_
                | refine Wo.row0 ?_
                | refine Wo.len ?_
                | refine Wo.pure ?_
                | refine Wo.shut ?_
                | refine Wo.shut' ?_
                | fail)
            | refine Wx.seq ?_
            | refine Wx.plain ?_
            | (guard_target =~ QX _ _ _ _ _ _ _ _
               first
                | refine Wq.normal ?_
                | refine Wq.exit ?_
                | refine Wq.ret ?_
                | refine Wb.normal ?_
                | refine Wb.hit ?_
                | refine Wb.miss ?_
                | refine Wb.ret ?_
                | refine Wl.ret ?_
                | refine Wl.normal ?_
                | fail)
            | refine Wx.yes ?_
            | refine Wx.no ?_
            | refine Wx.block ?_
            | refine Wx.exit ?_
            | refine Wx.ret ?_
            | refine Wx.skip ?_
            | refine Wx.scope ?_
            | refine Wx.still ?_
            | refine Wx.dyn ?_
            | fail)
          exfalso; have := less_reach hn' hzb; rw [hza] at this; cases this
        · repeat' (first
            | refine Wo.move ?_
            | refine Wo.assign ?_
            | refine Wo.nil ?_
            | refine Wo.nilD ?_
            | (guard_target =~ WX _ _ _ _ _ _ _ _ _ _ _ _
               first
                | refine Wo.lss (fun _ => ?_) (fun _ => ?_) <;> try (exfalso; omega)
                | refine Wo.leq (fun _ => ?_) (fun _ => ?_) <;> try (exfalso; omega)
                | refine Wo.gtr (fun _ => ?_) (fun _ => ?_) <;> try (exfalso; omega)
                | refine Wo.geq (fun _ => ?_) (fun _ => ?_) <;> try (exfalso; omega)
                | refine Wo.eql (fun _ => ?_) (fun _ => ?_) <;> try (exfalso; omega)
                | refine Wo.neq (fun _ => ?_) (fun _ => ?_) <;> try (exfalso; omega)
                | refine Wo.seq (fun _ => ?_) (fun _ => ?_)
                | refine Wo.sne (fun _ => ?_) (fun _ => ?_)
                | refine Wo.eqS (fun _ => ?_) (fun _ => ?_)
                | refine Wo.neS (fun _ => ?_) (fun _ => ?_)
                | refine Wo.add ?_
                | refine Wo.sub ?_
                | refine Wo.loadW ?_
                | refine Wo.loadSt ?_
                | refine Wo.load ?_
                | refine Wo.storeW ?_
                | refine Wo.store ?_
                | refine Wo.alloc (fun _ => ?_)
                | refine Wo.box (fun _ => ?_)
                | refine Wo.idxA ?_
                | refine Wo.idx (fun _ _ => ?_)
                | refine Wo.cutHi (fun _ _ => ?_)
                | refine Wo.cutLo (fun _ _ => ?_)
                | refine Wo.cutBoth (fun _ _ => ?_)
                | refine Wo.byteA ?_
                | refine Wo.byte (fun _ _ => ?_)
                | refine Wo.loadEw ?_
                | refine Wo.loadE ?_
                | refine Wo.loadL ?_
                | refine Wo.build ?_
                | refine Wo.clos ?_
                | refine Wo.idxO ?_
                | refine Wo.loadMA ?_
                | refine Wo.loadR ?_
                | refine Wo.loadM (fun _ _ => ?_)
                | refine Wo.row (sz := 1) (fun _ => ?_)
                | refine Wo.row (sz := 2) (fun _ => ?_)
                | refine Wo.row (sz := 4) (fun _ => ?_)
                | refine Wo.row (sz := 5) (fun _ => ?_)
                | refine Wo.makeB (fun _ => ?_)
                | refine Wo.makeI (fun _ => ?_)
                | refine Wo.cutO ?_
                | refine Wo.app1 (fun _ => ?_)
                | refine Wo.storeM ?_
                | refine Wo.row0 ?_
                | refine Wo.len ?_
                | refine Wo.pure ?_
                | refine Wo.shut ?_
                | refine Wo.shut' ?_
                | fail)
            | refine Wx.seq ?_
            | refine Wx.plain ?_
            | (guard_target =~ QX _ _ _ _ _ _ _ _
               first
                | refine Wq.normal ?_
                | refine Wq.exit ?_
                | refine Wq.ret ?_
                | refine Wb.normal ?_
                | refine Wb.hit ?_
                | refine Wb.miss ?_
                | refine Wb.ret ?_
                | refine Wl.ret ?_
                | refine Wl.normal ?_
                | fail)
            | refine Wx.yes ?_
            | refine Wx.no ?_
            | refine Wx.block ?_
            | refine Wx.exit ?_
            | refine Wx.ret ?_
            | refine Wx.skip ?_
            | refine Wx.scope ?_
            | refine Wx.still ?_
            | refine Wx.dyn ?_
            | fail)
          exact Rd (k + 1) (by omega) ⟨by omega, trivial⟩
      · repeat' (first
          | refine Wo.move ?_
          | refine Wo.assign ?_
          | refine Wo.nil ?_
          | refine Wo.nilD ?_
          | (guard_target =~ WX _ _ _ _ _ _ _ _ _ _ _ _
             first
              | refine Wo.lss (fun _ => ?_) (fun _ => ?_) <;> try (exfalso; omega)
              | refine Wo.leq (fun _ => ?_) (fun _ => ?_) <;> try (exfalso; omega)
              | refine Wo.gtr (fun _ => ?_) (fun _ => ?_) <;> try (exfalso; omega)
              | refine Wo.geq (fun _ => ?_) (fun _ => ?_) <;> try (exfalso; omega)
              | refine Wo.eql (fun _ => ?_) (fun _ => ?_) <;> try (exfalso; omega)
              | refine Wo.neq (fun _ => ?_) (fun _ => ?_) <;> try (exfalso; omega)
              | refine Wo.seq (fun _ => ?_) (fun _ => ?_)
              | refine Wo.sne (fun _ => ?_) (fun _ => ?_)
              | refine Wo.eqS (fun _ => ?_) (fun _ => ?_)
              | refine Wo.neS (fun _ => ?_) (fun _ => ?_)
              | refine Wo.add ?_
              | refine Wo.sub ?_
              | refine Wo.loadW ?_
              | refine Wo.loadSt ?_
              | refine Wo.load ?_
              | refine Wo.storeW ?_
              | refine Wo.store ?_
              | refine Wo.alloc (fun _ => ?_)
              | refine Wo.box (fun _ => ?_)
              | refine Wo.idxA ?_
              | refine Wo.idx (fun _ _ => ?_)
              | refine Wo.cutHi (fun _ _ => ?_)
              | refine Wo.cutLo (fun _ _ => ?_)
              | refine Wo.cutBoth (fun _ _ => ?_)
              | refine Wo.byteA ?_
              | refine Wo.byte (fun _ _ => ?_)
              | refine Wo.loadEw ?_
              | refine Wo.loadE ?_
              | refine Wo.loadL ?_
              | refine Wo.build ?_
              | refine Wo.clos ?_
              | refine Wo.idxO ?_
              | refine Wo.loadMA ?_
              | refine Wo.loadR ?_
              | refine Wo.loadM (fun _ _ => ?_)
              | refine Wo.row (sz := 1) (fun _ => ?_)
              | refine Wo.row (sz := 2) (fun _ => ?_)
              | refine Wo.row (sz := 4) (fun _ => ?_)
              | refine Wo.row (sz := 5) (fun _ => ?_)
              | refine Wo.makeB (fun _ => ?_)
              | refine Wo.makeI (fun _ => ?_)
              | refine Wo.cutO ?_
              | refine Wo.app1 (fun _ => ?_)
              | refine Wo.storeM ?_
              | refine Wo.row0 ?_
              | refine Wo.len ?_
              | refine Wo.pure ?_
              | refine Wo.shut ?_
              | refine Wo.shut' ?_
              | fail)
          | refine Wx.seq ?_
          | refine Wx.plain ?_
          | (guard_target =~ QX _ _ _ _ _ _ _ _
             first
              | refine Wq.normal ?_
              | refine Wq.exit ?_
              | refine Wq.ret ?_
              | refine Wb.normal ?_
              | refine Wb.hit ?_
              | refine Wb.miss ?_
              | refine Wb.ret ?_
              | refine Wl.ret ?_
              | refine Wl.normal ?_
              | fail)
          | refine Wx.yes ?_
          | refine Wx.no ?_
          | refine Wx.block ?_
          | refine Wx.exit ?_
          | refine Wx.ret ?_
          | refine Wx.skip ?_
          | refine Wx.scope ?_
          | refine Wx.still ?_
          | refine Wx.dyn ?_
          | fail)
        all_goals rfl
    · repeat' (first
        | refine Wo.move ?_
        | refine Wo.assign ?_
        | refine Wo.nil ?_
        | refine Wo.nilD ?_
        | (guard_target =~ WX _ _ _ _ _ _ _ _ _ _ _ _
           first
            | refine Wo.lss (fun _ => ?_) (fun _ => ?_) <;> try (exfalso; omega)
            | refine Wo.leq (fun _ => ?_) (fun _ => ?_) <;> try (exfalso; omega)
            | refine Wo.gtr (fun _ => ?_) (fun _ => ?_) <;> try (exfalso; omega)
            | refine Wo.geq (fun _ => ?_) (fun _ => ?_) <;> try (exfalso; omega)
            | refine Wo.eql (fun _ => ?_) (fun _ => ?_) <;> try (exfalso; omega)
            | refine Wo.neq (fun _ => ?_) (fun _ => ?_) <;> try (exfalso; omega)
            | refine Wo.seq (fun _ => ?_) (fun _ => ?_)
            | refine Wo.sne (fun _ => ?_) (fun _ => ?_)
            | refine Wo.eqS (fun _ => ?_) (fun _ => ?_)
            | refine Wo.neS (fun _ => ?_) (fun _ => ?_)
            | refine Wo.add ?_
            | refine Wo.sub ?_
            | refine Wo.loadW ?_
            | refine Wo.loadSt ?_
            | refine Wo.load ?_
            | refine Wo.storeW ?_
            | refine Wo.store ?_
            | refine Wo.alloc (fun _ => ?_)
            | refine Wo.box (fun _ => ?_)
            | refine Wo.idxA ?_
            | refine Wo.idx (fun _ _ => ?_)
            | refine Wo.cutHi (fun _ _ => ?_)
            | refine Wo.cutLo (fun _ _ => ?_)
            | refine Wo.cutBoth (fun _ _ => ?_)
            | refine Wo.byteA ?_
            | refine Wo.byte (fun _ _ => ?_)
            | refine Wo.loadEw ?_
            | refine Wo.loadE ?_
            | refine Wo.loadL ?_
            | refine Wo.build ?_
            | refine Wo.clos ?_
            | refine Wo.idxO ?_
            | refine Wo.loadMA ?_
            | refine Wo.loadR ?_
            | refine Wo.loadM (fun _ _ => ?_)
            | refine Wo.row (sz := 1) (fun _ => ?_)
            | refine Wo.row (sz := 2) (fun _ => ?_)
            | refine Wo.row (sz := 4) (fun _ => ?_)
            | refine Wo.row (sz := 5) (fun _ => ?_)
            | refine Wo.makeB (fun _ => ?_)
            | refine Wo.makeI (fun _ => ?_)
            | refine Wo.cutO ?_
            | refine Wo.app1 (fun _ => ?_)
            | refine Wo.storeM ?_
            | refine Wo.row0 ?_
            | refine Wo.len ?_
            | refine Wo.pure ?_
            | refine Wo.shut ?_
            | refine Wo.shut' ?_
            | fail)
        | refine Wx.seq ?_
        | refine Wx.plain ?_
        | (guard_target =~ QX _ _ _ _ _ _ _ _
           first
            | refine Wq.normal ?_
            | refine Wq.exit ?_
            | refine Wq.ret ?_
            | refine Wb.normal ?_
            | refine Wb.hit ?_
            | refine Wb.miss ?_
            | refine Wb.ret ?_
            | refine Wl.ret ?_
            | refine Wl.normal ?_
            | fail)
        | refine Wx.yes ?_
        | refine Wx.no ?_
        | refine Wx.block ?_
        | refine Wx.exit ?_
        | refine Wx.ret ?_
        | refine Wx.skip ?_
        | refine Wx.scope ?_
        | refine Wx.still ?_
        | refine Wx.dyn ?_
        | fail)
      rename_i s3 hs3
      have hl3 : s3.list.length = t.rules.list.length - (n.toNat + 1) := by rw [hs3, List.length_drop]; omega
      have hL : s3.list = (less t n.toNat).rules.list := by
        rw [less_rules, ← hs2, hem, hs3, show (n + 1).toNat = n.toNat + 1 by omega]; rfl
      refine Wo.appF (fun g2 _ hne => ?_) (fun hem3 => ?_) (hnew := okElem_rl)
      · rw [hL]
        have hl4 : s3.list.length = (less t n.toNat).rules.list.length := by rw [hL]
        repeat' (first
          | refine Wo.move ?_
          | refine Wo.assign ?_
          | refine Wo.nil ?_
          | refine Wo.nilD ?_
          | (guard_target =~ WX _ _ _ _ _ _ _ _ _ _ _ _
             first
              | refine Wo.lss (fun _ => ?_) (fun _ => ?_) <;> try (exfalso; omega)
              | refine Wo.leq (fun _ => ?_) (fun _ => ?_) <;> try (exfalso; omega)
              | refine Wo.gtr (fun _ => ?_) (fun _ => ?_) <;> try (exfalso; omega)
              | refine Wo.geq (fun _ => ?_) (fun _ => ?_) <;> try (exfalso; omega)
              | refine Wo.eql (fun _ => ?_) (fun _ => ?_) <;> try (exfalso; omega)
              | refine Wo.neq (fun _ => ?_) (fun _ => ?_) <;> try (exfalso; omega)
              | refine Wo.seq (fun _ => ?_) (fun _ => ?_)
              | refine Wo.sne (fun _ => ?_) (fun _ => ?_)
              | refine Wo.eqS (fun _ => ?_) (fun _ => ?_)
              | refine Wo.neS (fun _ => ?_) (fun _ => ?_)
              | refine Wo.add ?_
              | refine Wo.sub ?_
              | refine Wo.loadW ?_
              | refine Wo.loadSt ?_
              | refine Wo.load ?_
              | refine Wo.storeW ?_
              | refine Wo.store ?_
              | refine Wo.alloc (fun _ => ?_)
              | refine Wo.box (fun _ => ?_)
              | refine Wo.idxA ?_
              | refine Wo.idx (fun _ _ => ?_)
              | refine Wo.cutHi (fun _ _ => ?_)
              | refine Wo.cutLo (fun _ _ => ?_)
              | refine Wo.cutBoth (fun _ _ => ?_)
              | refine Wo.byteA ?_
              | refine Wo.byte (fun _ _ => ?_)
              | refine Wo.loadEw ?_
              | refine Wo.loadE ?_
              | refine Wo.loadL ?_
              | refine Wo.build ?_
              | refine Wo.clos ?_
              | refine Wo.idxO ?_
              | refine Wo.loadMA ?_
              | refine Wo.loadR ?_
              | refine Wo.loadM (fun _ _ => ?_)
              | refine Wo.row (sz := 1) (fun _ => ?_)
              | refine Wo.row (sz := 2) (fun _ => ?_)
              | refine Wo.row (sz := 4) (fun _ => ?_)
              | refine Wo.row (sz := 5) (fun _ => ?_)
              | refine Wo.makeB (fun _ => ?_)
              | refine Wo.makeI (fun _ => ?_)
              | refine Wo.cutO ?_
              | refine Wo.app1 (fun _ => ?_)
              | refine Wo.storeM ?_
              | refine Wo.row0 ?_
              | refine Wo.callO (r_Reach t ht hR) (fun _ => ?_)
              | refine Wo.callGO (r_Reach (less t n.toNat) hu hRu) (fun _ => ?_)
              | refine Wo.callGV (r_Check (less t n.toNat) hu) ?_
              | refine Wo.len ?_
              | refine Wo.pure ?_
              | refine Wo.shut ?_
              | refine Wo.shut' ?_
              | fail)
          | refine Wx.seq ?_
          | refine Wx.plain ?_
          | (guard_target =~ QX _ _ _ _ _ _ _ _
             first
              | refine Wq.normal ?_
              | refine Wq.exit ?_
              | refine Wq.ret ?_
              | refine Wb.normal ?_
              | refine Wb.hit ?_
              | refine Wb.miss ?_
              | refine Wb.ret ?_
              | refine Wl.ret ?_
              | refine Wl.normal ?_
              | fail)
          | refine Wx.yes ?_
          | refine Wx.no ?_
          | refine Wx.block ?_
          | refine Wx.exit ?_
          | refine Wx.ret ?_
          | refine Wx.skip ?_
          | refine Wx.scope ?_
          | refine Wx.still ?_
          | refine Wx.dyn ?_
          | fail)
        all_goals first
          | (exfalso; rename_i hc; revert hc; rw [show ((check' (less t n.toNat)).e == 0 && ((check' (less t n.toNat)).r == 0 && ((check' (less t n.toNat)).p == 0 && ((check' (less t n.toNat)).a == 0 && true)))) = true from hRu]; simp; done)
          | skip
        refine Wx.loop [6, 7] [0, 1, 2, 5, 9, 13, 28, 30, 35, 41, 44, 46, 48] (fun k => [(8, .val (iv (k : Nat)))]) (fun k => []) (fun k => k ≤ t.states.list.length ∧ True) (fun k => t.states.list.length - k) 0 ⟨Nat.zero_le _, trivial⟩ (fun k x y hG => ?_)
        obtain ⟨h1, h2⟩ := hG
        dsimp only [List.cons_append, List.nil_append]
        rcases Nat.lt_or_ge k t.states.list.length with hk | hk
        · obtain ⟨za, hza⟩ := at_some (show 0 + ((k : Nat) : Int).toNat < (reach' t).length by rw [reach_len]; omega)
          obtain ⟨zb, hzb⟩ := at_some (show 0 + ((k : Nat) : Int).toNat < (reach' (less t n.toNat)).length by rw [reach_len]; show _ < t.states.list.length; omega)
          cases zb <;> cases za
          · repeat' (first
              | refine Wo.move ?_
              | refine Wo.assign ?_
              | refine Wo.nil ?_
              | refine Wo.nilD ?_
              | (guard_target =~ WX _ _ _ _ _ _ _ _ _ _ _ _
                 first
                  | refine Wo.lss (fun _ => ?_) (fun _ => ?_) <;> try (exfalso; omega)
                  | refine Wo.leq (fun _ => ?_) (fun _ => ?_) <;> try (exfalso; omega)
                  | refine Wo.gtr (fun _ => ?_) (fun _ => ?_) <;> try (exfalso; omega)
                  | refine Wo.geq (fun _ => ?_) (fun _ => ?_) <;> try (exfalso; omega)
                  | refine Wo.eql (fun _ => ?_) (fun _ => ?_) <;> try (exfalso; omega)
                  | refine Wo.neq (fun _ => ?_) (fun _ => ?_) <;> try (exfalso; omega)
                  | refine Wo.seq (fun _ => ?_) (fun _ => ?_)
                  | refine Wo.sne (fun _ => ?_) (fun _ => ?_)
                  | refine Wo.eqS (fun _ => ?_) (fun _ => ?_)
                  | refine Wo.neS (fun _ => ?_) (fun _ => ?_)
                  | refine Wo.add ?_
                  | refine Wo.sub ?_
                  | refine Wo.loadW ?_
                  | refine Wo.loadSt ?_
                  | refine Wo.load ?_
                  | refine Wo.storeW ?_
                  | refine Wo.store ?_
                  | refine Wo.alloc (fun _ => ?_)
                  | refine Wo.box (fun _ => ?_)
                  | refine Wo.idxA ?_
                  | refine Wo.idx (fun _ _ => ?_)
                  | refine Wo.cutHi (fun _ _ => ?_)
                  | refine Wo.cutLo (fun _ _ => ?_)
                  | refine Wo.cutBoth (fun _ _ => ?_)
                  | refine Wo.byteA ?_
                  | refine Wo.byte (fun _ _ => ?_)
                  | refine Wo.loadEw ?_
                  | refine Wo.loadE ?_
                  | refine Wo.loadL ?_
                  | refine Wo.build ?_
                  | refine Wo.clos ?_
                  | refine Wo.idxO ?_
                  | refine Wo.loadMA ?_
                  | refine Wo.loadR ?_
                  | refine Wo.loadM (fun _ _ => ?_)
                  | refine Wo.row (sz := 1) (fun _ => ?_)
                  | refine Wo.row (sz := 2) (fun _ => ?_)
                  | refine Wo.row (sz := 4) (fun _ => ?_)
                  | refine Wo.row (sz := 5) (fun _ => ?_)
                  | refine Wo.makeB (fun _ => ?_)
                  | refine Wo.makeI (fun _ => ?_)
                  | refine Wo.cutO ?_
                  | refine Wo.app1 (fun _ => ?_)
                  | refine Wo.storeM ?_
                  | refine Wo.row0 ?_
                  | refine Wo.len ?_
                  | refine Wo.pure ?_
                  | refine Wo.shut ?_
                  | refine Wo.shut' ?_
                  | fail)
              | refine Wx.seq ?_
              | refine Wx.plain ?_
              | (guard_target =~ QX _ _ _ _ _ _ _ _
                 first
                  | refine Wq.normal ?_
                  | refine Wq.exit ?_
                  | refine Wq.ret ?_
                  | refine Wb.normal ?_
                  | refine Wb.hit ?_
                  | refine Wb.miss ?_
                  | refine Wb.ret ?_
                  | refine Wl.ret ?_
                  | refine Wl.normal ?_
                  | fail)
              | refine Wx.yes ?_
              | refine Wx.no ?_
              | refine Wx.block ?_
              | refine Wx.exit ?_
              | refine Wx.ret ?_
              | refine Wx.skip ?_
              | refine Wx.scope ?_
              | refine Wx.still ?_
              | refine Wx.dyn ?_
              | fail)
            exact Rd (k + 1) (by omega) ⟨by omega, trivial⟩
          · repeat' (first
              | refine Wo.move ?_
              | refine Wo.assign ?_
              | refine Wo.nil ?_
              | refine Wo.nilD ?_
              | (guard_target =~ WX _ _ _ _ _ _ _ _ _ _ _ _
                 first
                  | refine Wo.lss (fun _ => ?_) (fun _ => ?_) <;> try (exfalso; omega)
                  | refine Wo.leq (fun _ => ?_) (fun _ => ?_) <;> try (exfalso; omega)
                  | refine Wo.gtr (fun _ => ?_) (fun _ => ?_) <;> try (exfalso; omega)
                  | refine Wo.geq (fun _ => ?_) (fun _ => ?_) <;> try (exfalso; omega)
                  | refine Wo.eql (fun _ => ?_) (fun _ => ?_) <;> try (exfalso; omega)
                  | refine Wo.neq (fun _ => ?_) (fun _ => ?_) <;> try (exfalso; omega)
                  | refine Wo.seq (fun _ => ?_) (fun _ => ?_)
                  | refine Wo.sne (fun _ => ?_) (fun _ => ?_)
                  | refine Wo.eqS (fun _ => ?_) (fun _ => ?_)
                  | refine Wo.neS (fun _ => ?_) (fun _ => ?_)
                  | refine Wo.add ?_
                  | refine Wo.sub ?_
                  | refine Wo.loadW ?_
                  | refine Wo.loadSt ?_
                  | refine Wo.load ?_
                  | refine Wo.storeW ?_
                  | refine Wo.store ?_
                  | refine Wo.alloc (fun _ => ?_)
                  | refine Wo.box (fun _ => ?_)
                  | refine Wo.idxA ?_
                  | refine Wo.idx (fun _ _ => ?_)
                  | refine Wo.cutHi (fun _ _ => ?_)
                  | refine Wo.cutLo (fun _ _ => ?_)
                  | refine Wo.cutBoth (fun _ _ => ?_)
                  | refine Wo.byteA ?_
                  | refine Wo.byte (fun _ _ => ?_)
                  | refine Wo.loadEw ?_
                  | refine Wo.loadE ?_
                  | refine Wo.loadL ?_
                  | refine Wo.build ?_
                  | refine Wo.clos ?_
                  | refine Wo.idxO ?_
                  | refine Wo.loadMA ?_
                  | refine Wo.loadR ?_
                  | refine Wo.loadM (fun _ _ => ?_)
                  | refine Wo.row (sz := 1) (fun _ => ?_)
                  | refine Wo.row (sz := 2) (fun _ => ?_)
                  | refine Wo.row (sz := 4) (fun _ => ?_)
                  | refine Wo.row (sz := 5) (fun _ => ?_)
                  | refine Wo.makeB (fun _ => ?_)
                  | refine Wo.makeI (fun _ => ?_)
                  | refine Wo.cutO ?_
                  | refine Wo.app1 (fun _ => ?_)
                  | refine Wo.storeM ?_
                  | refine Wo.row0 ?_
                  | refine Wo.len ?_
                  | refine Wo.pure ?_
                  | refine Wo.shut ?_
                  | refine Wo.shut' ?_
                  | fail)
              | refine Wx.seq ?_
              | refine Wx.plain ?_
              | (guard_target =~ QX _ _ _ _ _ _ _ _
                 first
                  | refine Wq.normal ?_
                  | refine Wq.exit ?_
                  | refine Wq.ret ?_
                  | refine Wb.normal ?_
                  | refine Wb.hit ?_
                  | refine Wb.miss ?_
                  | refine Wb.ret ?_
                  | refine Wl.ret ?_
                  | refine Wl.normal ?_
                  | fail)
              | refine Wx.yes ?_
              | refine Wx.no ?_
              | refine Wx.block ?_
              | refine Wx.exit ?_
              | refine Wx.ret ?_
              | refine Wx.skip ?_
              | refine Wx.scope ?_
              | refine Wx.still ?_
              | refine Wx.dyn ?_
              | fail)
            exact Rd (k + 1) (by omega) ⟨by omega, trivial⟩
          · repeat' (first
              | refine Wo.move ?_
              | refine Wo.assign ?_
              | refine Wo.nil ?_
              | refine Wo.nilD ?_
              | (guard_target =~ WX _ _ _ _ _ _ _ _ _ _ _ _
                 first
                  | refine Wo.lss (fun _ => ?_) (fun _ => ?_) <;> try (exfalso; omega)
                  | refine Wo.leq (fun _ => ?_) (fun _ => ?_) <;> try (exfalso; omega)
                  | refine Wo.gtr (fun _ => ?_) (fun _ => ?_) <;> try (exfalso; omega)
                  | refine Wo.geq (fun _ => ?_) (fun _ => ?_) <;> try (exfalso; omega)
                  | refine Wo.eql (fun _ => ?_) (fun _ => ?_) <;> try (exfalso; omega)
                  | refine Wo.neq (fun _ => ?_) (fun _ => ?_) <;> try (exfalso; omega)
                  | refine Wo.seq (fun _ => ?_) (fun _ => ?_)
                  | refine Wo.sne (fun _ => ?_) (fun _ => ?_)
                  | refine Wo.eqS (fun _ => ?_) (fun _ => ?_)
                  | refine Wo.neS (fun _ => ?_) (fun _ => ?_)
                  | refine Wo.add ?_
                  | refine Wo.sub ?_
                  | refine Wo.loadW ?_
                  | refine Wo.loadSt ?_
                  | refine Wo.load ?_
                  | refine Wo.storeW ?_
                  | refine Wo.store ?_
                  | refine Wo.alloc (fun _ => ?_)
                  | refine Wo.box (fun _ => ?_)
                  | refine Wo.idxA ?_
                  | refine Wo.idx (fun _ _ => ?_)
                  | refine Wo.cutHi (fun _ _ => ?_)
                  | refine Wo.cutLo (fun _ _ => ?_)
                  | refine Wo.cutBoth (fun _ _ => ?_)
                  | refine Wo.byteA ?_
                  | refine Wo.byte (fun _ _ => ?_)
                  | refine Wo.loadEw ?_
                  | refine Wo.loadE ?_
                  | refine Wo.loadL ?_
                  | refine Wo.build ?_
                  | refine Wo.clos ?_
                  | refine Wo.idxO ?_
                  | refine Wo.loadMA ?_
                  | refine Wo.loadR ?_
                  | refine Wo.loadM (fun _ _ => ?_)
                  | refine Wo.row (sz := 1) (fun _ => ?_)
                  | refine Wo.row (sz := 2) (fun _ => ?_)
                  | refine Wo.row (sz := 4) (fun _ => ?_)
                  | refine Wo.row (sz := 5) (fun _ => ?_)
                  | refine Wo.makeB (fun _ => ?_)
                  | refine Wo.makeI (fun _ => ?_)
                  | refine Wo.cutO ?_
                  | refine Wo.app1 (fun _ => ?_)
                  | refine Wo.storeM ?_
                  | refine Wo.row0 ?_
                  | refine Wo.len ?_
                  | refine Wo.pure ?_
                  | refine Wo.shut ?_
                  | refine Wo.shut' ?_
                  | fail)
              | refine Wx.seq ?_
              | refine Wx.plain ?_
              | (guard_target =~ QX _ _ _ _ _ _ _ _
                 first
                  | refine Wq.normal ?_
                  | refine Wq.exit ?_
                  | refine Wq.ret ?_
                  | refine Wb.normal ?_
                  | refine Wb.hit ?_
                  | refine Wb.miss ?_
                  | refine Wb.ret ?_
                  | refine Wl.ret ?_
                  | refine Wl.normal ?_
                  | fail)
              | refine Wx.yes ?_
              | refine Wx.no ?_
              | refine Wx.block ?_
              | refine Wx.exit ?_
              | refine Wx.ret ?_
              | refine Wx.skip ?_
              | refine Wx.scope ?_
              | refine Wx.still ?_
              | refine Wx.dyn ?_
              | fail)
            exfalso; have := less_reach hn' hzb; rw [hza] at this; cases this
          · repeat' (first
              | refine Wo.move ?_
              | refine Wo.assign ?_
              | refine Wo.nil ?_
              | refine Wo.nilD ?_
              | (guard_target =~ WX _ _ _ _ _ _ _ _ _ _ _ _
                 first
                  | refine Wo.lss (fun _ => ?_) (fun _ => ?_) <;> try (exfalso; omega)
                  | refine Wo.leq (fun _ => ?_) (fun _ => ?_) <;> try (exfalso; omega)
                  | refine Wo.gtr (fun _ => ?_) (fun _ => ?_) <;> try (exfalso; omega)
                  | refine Wo.geq (fun _ => ?_) (fun _ => ?_) <;> try (exfalso; omega)
                  | refine Wo.eql (fun _ => ?_) (fun _ => ?_) <;> try (exfalso; omega)
                  | refine Wo.neq (fun _ => ?_) (fun _ => ?_) <;> try (exfalso; omega)
                  | refine Wo.seq (fun _ => ?_) (fun _ => ?_)
                  | refine Wo.sne (fun _ => ?_) (fun _ => ?_)
                  | refine Wo.eqS (fun _ => ?_) (fun _ => ?_)
                  | refine Wo.neS (fun _ => ?_) (fun _ => ?_)
                  | refine Wo.add ?_
                  | refine Wo.sub ?_
                  | refine Wo.loadW ?_
                  | refine Wo.loadSt ?_
                  | refine Wo.load ?_
                  | refine Wo.storeW ?_
                  | refine Wo.store ?_
                  | refine Wo.alloc (fun _ => ?_)
                  | refine Wo.box (fun _ => ?_)
                  | refine Wo.idxA ?_
                  | refine Wo.idx (fun _ _ => ?_)
                  | refine Wo.cutHi (fun _ _ => ?_)
                  | refine Wo.cutLo (fun _ _ => ?_)
                  | refine Wo.cutBoth (fun _ _ => ?_)
                  | refine Wo.byteA ?_
                  | refine Wo.byte (fun _ _ => ?_)
                  | refine Wo.loadEw ?_
                  | refine Wo.loadE ?_
                  | refine Wo.loadL ?_
                  | refine Wo.build ?_
                  | refine Wo.clos ?_
                  | refine Wo.idxO ?_
                  | refine Wo.loadMA ?_
                  | refine Wo.loadR ?_
                  | refine Wo.loadM (fun _ _ => ?_)
                  | refine Wo.row (sz := 1) (fun _ => ?_)
                  | refine Wo.row (sz := 2) (fun _ => ?_)
                  | refine Wo.row (sz := 4) (fun _ => ?_)
                  | refine Wo.row (sz := 5) (fun _ => ?_)
                  | refine Wo.makeB (fun _ => ?_)
                  | refine Wo.makeI (fun _ => ?_)
                  | refine Wo.cutO ?_
                  | refine Wo.app1 (fun _ => ?_)
                  | refine Wo.storeM ?_
                  | refine Wo.row0 ?_
                  | refine Wo.len ?_
                  | refine Wo.pure ?_
                  | refine Wo.shut ?_
                  | refine Wo.shut' ?_
                  | fail)
              | refine Wx.seq ?_
              | refine Wx.plain ?_
              | (guard_target =~ QX _ _ _ _ _ _ _ _
                 first
                  | refine Wq.normal ?_
                  | refine Wq.exit ?_
                  | refine Wq.ret ?_
                  | refine Wb.normal ?_
                  | refine Wb.hit ?_
                  | refine Wb.miss ?_
                  | refine Wb.ret ?_
                  | refine Wl.ret ?_
                  | refine Wl.normal ?_
                  | fail)
              | refine Wx.yes ?_
              | refine Wx.no ?_
              | refine Wx.block ?_
              | refine Wx.exit ?_
              | refine Wx.ret ?_
              | refine Wx.skip ?_
              | refine Wx.scope ?_
              | refine Wx.still ?_
              | refine Wx.dyn ?_
              | fail)
            exact Rd (k + 1) (by omega) ⟨by omega, trivial⟩
        · repeat' (first
            | refine Wo.move ?_
            | refine Wo.assign ?_
            | refine Wo.nil ?_
            | refine Wo.nilD ?_
            | (guard_target =~ WX _ _ _ _ _ _ _ _ _ _ _ _
               first
                | refine Wo.lss (fun _ => ?_) (fun _ => ?_) <;> try (exfalso; omega)
                | refine Wo.leq (fun _ => ?_) (fun _ => ?_) <;> try (exfalso; omega)
                | refine Wo.gtr (fun _ => ?_) (fun _ => ?_) <;> try (exfalso; omega)
                | refine Wo.geq (fun _ => ?_) (fun _ => ?_) <;> try (exfalso; omega)
                | refine Wo.eql (fun _ => ?_) (fun _ => ?_) <;> try (exfalso; omega)
                | refine Wo.neq (fun _ => ?_) (fun _ => ?_) <;> try (exfalso; omega)
                | refine Wo.seq (fun _ => ?_) (fun _ => ?_)
                | refine Wo.sne (fun _ => ?_) (fun _ => ?_)
                | refine Wo.eqS (fun _ => ?_) (fun _ => ?_)
                | refine Wo.neS (fun _ => ?_) (fun _ => ?_)
                | refine Wo.add ?_
                | refine Wo.sub ?_
                | refine Wo.loadW ?_
                | refine Wo.loadSt ?_
                | refine Wo.load ?_
                | refine Wo.storeW ?_
                | refine Wo.store ?_
                | refine Wo.alloc (fun _ => ?_)
                | refine Wo.box (fun _ => ?_)
                | refine Wo.idxA ?_
                | refine Wo.idx (fun _ _ => ?_)
                | refine Wo.cutHi (fun _ _ => ?_)
                | refine Wo.cutLo (fun _ _ => ?_)
                | refine Wo.cutBoth (fun _ _ => ?_)
                | refine Wo.byteA ?_
                | refine Wo.byte (fun _ _ => ?_)
                | refine Wo.loadEw ?_
                | refine Wo.loadE ?_
                | refine Wo.loadL ?_
                | refine Wo.build ?_
                | refine Wo.clos ?_
                | refine Wo.idxO ?_
                | refine Wo.loadMA ?_
                | refine Wo.loadR ?_
                | refine Wo.loadM (fun _ _ => ?_)
                | refine Wo.row (sz := 1) (fun _ => ?_)
                | refine Wo.row (sz := 2) (fun _ => ?_)
                | refine Wo.row (sz := 4) (fun _ => ?_)
                | refine Wo.row (sz := 5) (fun _ => ?_)
                | refine Wo.makeB (fun _ => ?_)
                | refine Wo.makeI (fun _ => ?_)
                | refine Wo.cutO ?_
                | refine Wo.app1 (fun _ => ?_)
                | refine Wo.storeM ?_
                | refine Wo.row0 ?_
                | refine Wo.len ?_
                | refine Wo.pure ?_
                | refine Wo.shut ?_
                | refine Wo.shut' ?_
                | fail)
            | refine Wx.seq ?_
            | refine Wx.plain ?_
            | (guard_target =~ QX _ _ _ _ _ _ _ _
               first
                | refine Wq.normal ?_
                | refine Wq.exit ?_
                | refine Wq.ret ?_
                | refine Wb.normal ?_
                | refine Wb.hit ?_
                | refine Wb.miss ?_
                | refine Wb.ret ?_
                | refine Wl.ret ?_
                | refine Wl.normal ?_
                | fail)
            | refine Wx.yes ?_
            | refine Wx.no ?_
            | refine Wx.block ?_
            | refine Wx.exit ?_
            | refine Wx.ret ?_
            | refine Wx.skip ?_
            | refine Wx.scope ?_
            | refine Wx.still ?_
            | refine Wx.dyn ?_
            | fail)
          all_goals rfl
      · have hL0 : less t n.toNat = ⟨t.states, t.vars, t.start, some []⟩ := by
          rw [hem3] at hL
          show (⟨_, _, _, some _⟩ : Tb) = _
          have : t.rules.list.take n.toNat ++ t.rules.list.drop (n.toNat + 1) = [] := hL.symm
          rw [this]
        have hu0 := hu
        have hRu0 := hRu
        have hrr := r_Reach _ hu hRu
        have hcc := r_Check _ hu
        rw [show tbV (less t n.toNat) = tbV ⟨t.states, t.vars, t.start, some []⟩ by rw [hL0]] at hrr hcc
        repeat' (first
          | refine Wo.move ?_
          | refine Wo.assign ?_
          | refine Wo.nil ?_
          | refine Wo.nilD ?_
          | (guard_target =~ WX _ _ _ _ _ _ _ _ _ _ _ _
             first
              | refine Wo.lss (fun _ => ?_) (fun _ => ?_) <;> try (exfalso; omega)
              | refine Wo.leq (fun _ => ?_) (fun _ => ?_) <;> try (exfalso; omega)
              | refine Wo.gtr (fun _ => ?_) (fun _ => ?_) <;> try (exfalso; omega)
              | refine Wo.geq (fun _ => ?_) (fun _ => ?_) <;> try (exfalso; omega)
              | refine Wo.eql (fun _ => ?_) (fun _ => ?_) <;> try (exfalso; omega)
              | refine Wo.neq (fun _ => ?_) (fun _ => ?_) <;> try (exfalso; omega)
              | refine Wo.seq (fun _ => ?_) (fun _ => ?_)
              | refine Wo.sne (fun _ => ?_) (fun _ => ?_)
              | refine Wo.eqS (fun _ => ?_) (fun _ => ?_)
              | refine Wo.neS (fun _ => ?_) (fun _ => ?_)
              | refine Wo.add ?_
              | refine Wo.sub ?_
              | refine Wo.loadW ?_
              | refine Wo.loadSt ?_
              | refine Wo.load ?_
              | refine Wo.storeW ?_
              | refine Wo.store ?_
              | refine Wo.alloc (fun _ => ?_)
              | refine Wo.box (fun _ => ?_)
              | refine Wo.idxA ?_
              | refine Wo.idx (fun _ _ => ?_)
              | refine Wo.cutHi (fun _ _ => ?_)
              | refine Wo.cutLo (fun _ _ => ?_)
              | refine Wo.cutBoth (fun _ _ => ?_)
              | refine Wo.byteA ?_
              | refine Wo.byte (fun _ _ => ?_)
              | refine Wo.loadEw ?_
              | refine Wo.loadE ?_
              | refine Wo.loadL ?_
              | refine Wo.build ?_
              | refine Wo.clos ?_
              | refine Wo.idxO ?_
              | refine Wo.loadMA ?_
              | refine Wo.loadR ?_
              | refine Wo.loadM (fun _ _ => ?_)
              | refine Wo.row (sz := 1) (fun _ => ?_)
              | refine Wo.row (sz := 2) (fun _ => ?_)
              | refine Wo.row (sz := 4) (fun _ => ?_)
              | refine Wo.row (sz := 5) (fun _ => ?_)
              | refine Wo.makeB (fun _ => ?_)
              | refine Wo.makeI (fun _ => ?_)
              | refine Wo.cutO ?_
              | refine Wo.app1 (fun _ => ?_)
              | refine Wo.storeM ?_
              | refine Wo.row0 ?_
              | refine Wo.callO (r_Reach t ht hR) (fun _ => ?_)
              | refine Wo.callGO hrr (fun _ => ?_)
              | refine Wo.callGV hcc ?_
              | refine Wo.len ?_
              | refine Wo.pure ?_
              | refine Wo.shut ?_
              | refine Wo.shut' ?_
              | fail)
          | refine Wx.seq ?_
          | refine Wx.plain ?_
          | (guard_target =~ QX _ _ _ _ _ _ _ _
             first
              | refine Wq.normal ?_
              | refine Wq.exit ?_
              | refine Wq.ret ?_
              | refine Wb.normal ?_
              | refine Wb.hit ?_
              | refine Wb.miss ?_
              | refine Wb.ret ?_
              | refine Wl.ret ?_
              | refine Wl.normal ?_
              | fail)
          | refine Wx.yes ?_
          | refine Wx.no ?_
          | refine Wx.block ?_
          | refine Wx.exit ?_
          | refine Wx.ret ?_
          | refine Wx.skip ?_
          | refine Wx.scope ?_
          | refine Wx.still ?_
          | refine Wx.dyn ?_
          | fail)
        all_goals first
          | (exfalso; rename_i hc; revert hc; rw [show ((check' (less t n.toNat)).e == 0 && ((check' (less t n.toNat)).r == 0 && ((check' (less t n.toNat)).p == 0 && ((check' (less t n.toNat)).a == 0 && true)))) = true from hRu]; simp; done)
          | skip
        refine Wx.loop [6, 7] [0, 1, 2, 5, 9, 13, 28, 30, 35, 41, 44, 46, 48] (fun k => [(8, .val (iv (k : Nat)))]) (fun k => []) (fun k => k ≤ t.states.list.length ∧ True) (fun k => t.states.list.length - k) 0 ⟨Nat.zero_le _, trivial⟩ (fun k x y hG => ?_)
        obtain ⟨h1, h2⟩ := hG
        dsimp only [List.cons_append, List.nil_append]
        rcases Nat.lt_or_ge k t.states.list.length with hk | hk
        · obtain ⟨za, hza⟩ := at_some (show 0 + ((k : Nat) : Int).toNat < (reach' t).length by rw [reach_len]; omega)
          obtain ⟨zb, hzb⟩ := at_some (show 0 + ((k : Nat) : Int).toNat < (reach' (less t n.toNat)).length by rw [reach_len]; show _ < t.states.list.length; omega)
          cases zb <;> cases za
          · repeat' (first
              | refine Wo.move ?_
              | refine Wo.assign ?_
              | refine Wo.nil ?_
              | refine Wo.nilD ?_
              | (guard_target =~ WX _ _ _ _ _ _ _ _ _ _ _ _
                 first
                  | refine Wo.lss (fun _ => ?_) (fun _ => ?_) <;> try (exfalso; omega)
                  | refine Wo.leq (fun _ => ?_) (fun _ => ?_) <;> try (exfalso; omega)
                  | refine Wo.gtr (fun _ => ?_) (fun _ => ?_) <;> try (exfalso; omega)
                  | refine Wo.geq (fun _ => ?_) (fun _ => ?_) <;> try (exfalso; omega)
                  | refine Wo.eql (fun _ => ?_) (fun _ => ?_) <;> try (exfalso; omega)
                  | refine Wo.neq (fun _ => ?_) (fun _ => ?_) <;> try (exfalso; omega)
                  | refine Wo.seq (fun _ => ?_) (fun _ => ?_)
                  | refine Wo.sne (fun _ => ?_) (fun _ => ?_)
                  | refine Wo.eqS (fun _ => ?_) (fun _ => ?_)
                  | refine Wo.neS (fun _ => ?_) (fun _ => ?_)
                  | refine Wo.add ?_
                  | refine Wo.sub ?_
                  | refine Wo.loadW ?_
                  | refine Wo.loadSt ?_
                  | refine Wo.load ?_
                  | refine Wo.storeW ?_
                  | refine Wo.store ?_
                  | refine Wo.alloc (fun _ => ?_)
                  | refine Wo.box (fun _ => ?_)
                  | refine Wo.idxA ?_
                  | refine Wo.idx (fun _ _ => ?_)
                  | refine Wo.cutHi (fun _ _ => ?_)
                  | refine Wo.cutLo (fun _ _ => ?_)
                  | refine Wo.cutBoth (fun _ _ => ?_)
                  | refine Wo.byteA ?_
                  | refine Wo.byte (fun _ _ => ?_)
                  | refine Wo.loadEw ?_
                  | refine Wo.loadE ?_
                  | refine Wo.loadL ?_
                  | refine Wo.build ?_
                  | refine Wo.clos ?_
                  | refine Wo.idxO ?_
                  | refine Wo.loadMA ?_
                  | refine Wo.loadR ?_
                  | refine Wo.loadM (fun _ _ => ?_)
                  | refine Wo.row (sz := 1) (fun _ => ?_)
                  | refine Wo.row (sz := 2) (fun _ => ?_)
                  | refine Wo.row (sz := 4) (fun _ => ?_)
                  | refine Wo.row (sz := 5) (fun _ => ?_)
                  | refine Wo.makeB (fun _ => ?_)
                  | refine Wo.makeI (fun _ => ?_)
                  | refine Wo.cutO ?_
                  | refine Wo.app1 (fun _ => ?_)
                  | refine Wo.storeM ?_
                  | refine Wo.row0 ?_
                  | refine Wo.len ?_
                  | refine Wo.pure ?_
                  | refine Wo.shut ?_
                  | refine Wo.shut' ?_
                  | fail)
              | refine Wx.seq ?_
              | refine Wx.plain ?_
              | (guard_target =~ QX _ _ _ _ _ _ _ _
                 first
                  | refine Wq.normal ?_
                  | refine Wq.exit ?_
                  | refine Wq.ret ?_
                  | refine Wb.normal ?_
                  | refine Wb.hit ?_
                  | refine Wb.miss ?_
                  | refine Wb.ret ?_
                  | refine Wl.ret ?_
                  | refine Wl.normal ?_
                  | fail)
              | refine Wx.yes ?_
              | refine Wx.no ?_
              | refine Wx.block ?_
              | refine Wx.exit ?_
              | refine Wx.ret ?_
              | refine Wx.skip ?_
              | refine Wx.scope ?_
              | refine Wx.still ?_
              | refine Wx.dyn ?_
              | fail)
            exact Rd (k + 1) (by omega) ⟨by omega, trivial⟩
          · repeat' (first
              | refine Wo.move ?_
              | refine Wo.assign ?_
              | refine Wo.nil ?_
              | refine Wo.nilD ?_
              | (guard_target =~ WX _ _ _ _ _ _ _ _ _ _ _ _
                 first
                  | refine Wo.lss (fun _ => ?_) (fun _ => ?_) <;> try (exfalso; omega)
                  | refine Wo.leq (fun _ => ?_) (fun _ => ?_) <;> try (exfalso; omega)
                  | refine Wo.gtr (fun _ => ?_) (fun _ => ?_) <;> try (exfalso; omega)
                  | refine Wo.geq (fun _ => ?_) (fun _ => ?_) <;> try (exfalso; omega)
                  | refine Wo.eql (fun _ => ?_) (fun _ => ?_) <;> try (exfalso; omega)
                  | refine Wo.neq (fun _ => ?_) (fun _ => ?_) <;> try (exfalso; omega)
                  | refine Wo.seq (fun _ => ?_) (fun _ => ?_)
                  | refine Wo.sne (fun _ => ?_) (fun _ => ?_)
                  | refine Wo.eqS (fun _ => ?_) (fun _ => ?_)
                  | refine Wo.neS (fun _ => ?_) (fun _ => ?_)
                  | refine Wo.add ?_
                  | refine Wo.sub ?_
                  | refine Wo.loadW ?_
                  | refine Wo.loadSt ?_
                  | refine Wo.load ?_
                  | refine Wo.storeW ?_
                  | refine Wo.store ?_
                  | refine Wo.alloc (fun _ => ?_)
                  | refine Wo.box (fun _ => ?_)
                  | refine Wo.idxA ?_
                  | refine Wo.idx (fun _ _ => ?_)
                  | refine Wo.cutHi (fun _ _ => ?_)
                  | refine Wo.cutLo (fun _ _ => ?_)
                  | refine Wo.cutBoth (fun _ _ => ?_)
                  | refine Wo.byteA ?_
                  | refine Wo.byte (fun _ _ => ?_)
                  | refine Wo.loadEw ?_
                  | refine Wo.loadE ?_
                  | refine Wo.loadL ?_
                  | refine Wo.build ?_
                  | refine Wo.clos ?_
                  | refine Wo.idxO ?_
                  | refine Wo.loadMA ?_
                  | refine Wo.loadR ?_
                  | refine Wo.loadM (fun _ _ => ?_)
                  | refine Wo.row (sz := 1) (fun _ => ?_)
                  | refine Wo.row (sz := 2) (fun _ => ?_)
                  | refine Wo.row (sz := 4) (fun _ => ?_)
                  | refine Wo.row (sz := 5) (fun _ => ?_)
                  | refine Wo.makeB (fun _ => ?_)
                  | refine Wo.makeI (fun _ => ?_)
                  | refine Wo.cutO ?_
                  | refine Wo.app1 (fun _ => ?_)
                  | refine Wo.storeM ?_
                  | refine Wo.row0 ?_
                  | refine Wo.len ?_
                  | refine Wo.pure ?_
                  | refine Wo.shut ?_
                  | refine Wo.shut' ?_
                  | fail)
              | refine Wx.seq ?_
              | refine Wx.plain ?_
              | (guard_target =~ QX _ _ _ _ _ _ _ _
                 first
                  | refine Wq.normal ?_
                  | refine Wq.exit ?_
                  | refine Wq.ret ?_
                  | refine Wb.normal ?_
                  | refine Wb.hit ?_
                  | refine Wb.miss ?_
                  | refine Wb.ret ?_
                  | refine Wl.ret ?_
                  | refine Wl.normal ?_
                  | fail)
              | refine Wx.yes ?_
              | refine Wx.no ?_
              | refine Wx.block ?_
              | refine Wx.exit ?_
              | refine Wx.ret ?_
              | refine Wx.skip ?_
              | refine Wx.scope ?_
              | refine Wx.still ?_
              | refine Wx.dyn ?_
              | fail)
            exact Rd (k + 1) (by omega) ⟨by omega, trivial⟩
          · repeat' (first
              | refine Wo.move ?_
              | refine Wo.assign ?_
              | refine Wo.nil ?_
              | refine Wo.nilD ?_
              | (guard_target =~ WX _ _ _ _ _ _ _ _ _ _ _ _
                 first
                  | refine Wo.lss (fun _ => ?_) (fun _ => ?_) <;> try (exfalso; omega)
                  | refine Wo.leq (fun _ => ?_) (fun _ => ?_) <;> try (exfalso; omega)
                  | refine Wo.gtr (fun _ => ?_) (fun _ => ?_) <;> try (exfalso; omega)
                  | refine Wo.geq (fun _ => ?_) (fun _ => ?_) <;> try (exfalso; omega)
                  | refine Wo.eql (fun _ => ?_) (fun _ => ?_) <;> try (exfalso; omega)
                  | refine Wo.neq (fun _ => ?_) (fun _ => ?_) <;> try (exfalso; omega)
                  | refine Wo.seq (fun _ => ?_) (fun _ => ?_)
                  | refine Wo.sne (fun _ => ?_) (fun _ => ?_)
                  | refine Wo.eqS (fun _ => ?_) (fun _ => ?_)
                  | refine Wo.neS (fun _ => ?_) (fun _ => ?_)
                  | refine Wo.add ?_
                  | refine Wo.sub ?_
                  | refine Wo.loadW ?_
                  | refine Wo.loadSt ?_
                  | refine Wo.load ?_
                  | refine Wo.storeW ?_
                  | refine Wo.store ?_
                  | refine Wo.alloc (fun _ => ?_)
                  | refine Wo.box (fun _ => ?_)
                  | refine Wo.idxA ?_
                  | refine Wo.idx (fun _ _ => ?_)
                  | refine Wo.cutHi (fun _ _ => ?_)
                  | refine Wo.cutLo (fun _ _ => ?_)
                  | refine Wo.cutBoth (fun _ _ => ?_)
                  | refine Wo.byteA ?_
                  | refine Wo.byte (fun _ _ => ?_)
                  | refine Wo.loadEw ?_
                  | refine Wo.loadE ?_
                  | refine Wo.loadL ?_
                  | refine Wo.build ?_
                  | refine Wo.clos ?_
                  | refine Wo.idxO ?_
                  | refine Wo.loadMA ?_
                  | refine Wo.loadR ?_
                  | refine Wo.loadM (fun _ _ => ?_)
                  | refine Wo.row (sz := 1) (fun _ => ?_)
                  | refine Wo.row (sz := 2) (fun _ => ?_)
                  | refine Wo.row (sz := 4) (fun _ => ?_)
                  | refine Wo.row (sz := 5) (fun _ => ?_)
                  | refine Wo.makeB (fun _ => ?_)
                  | refine Wo.makeI (fun _ => ?_)
                  | refine Wo.cutO ?_
                  | refine Wo.app1 (fun _ => ?_)
                  | refine Wo.storeM ?_
                  | refine Wo.row0 ?_
                  | refine Wo.len ?_
                  | refine Wo.pure ?_
                  | refine Wo.shut ?_
                  | refine Wo.shut' ?_
                  | fail)
              | refine Wx.seq ?_
              | refine Wx.plain ?_
              | (guard_target =~ QX _ _ _ _ _ _ _ _
                 first
                  | refine Wq.normal ?_
                  | refine Wq.exit ?_
                  | refine Wq.ret ?_
                  | refine Wb.normal ?_
                  | refine Wb.hit ?_
                  | refine Wb.miss ?_
                  | refine Wb.ret ?_
                  | refine Wl.ret ?_
                  | refine Wl.normal ?_
                  | fail)
              | refine Wx.yes ?_
              | refine Wx.no ?_
              | refine Wx.block ?_
              | refine Wx.exit ?_
              | refine Wx.ret ?_
              | refine Wx.skip ?_
              | refine Wx.scope ?_
              | refine Wx.still ?_
              | refine Wx.dyn ?_
              | fail)
            exfalso; have := less_reach hn' hzb; rw [hza] at this; cases this
          · repeat' (first
              | refine Wo.move ?_
              | refine Wo.assign ?_
              | refine Wo.nil ?_
              | refine Wo.nilD ?_
              | (guard_target =~ WX _ _ _ _ _ _ _ _ _ _ _ _
                 first
                  | refine Wo.lss (fun _ => ?_) (fun _ => ?_) <;> try (exfalso; omega)
                  | refine Wo.leq (fun _ => ?_) (fun _ => ?_) <;> try (exfalso; omega)
                  | refine Wo.gtr (fun _ => ?_) (fun _ => ?_) <;> try (exfalso; omega)
                  | refine Wo.geq (fun _ => ?_) (fun _ => ?_) <;> try (exfalso; omega)
                  | refine Wo.eql (fun _ => ?_) (fun _ => ?_) <;> try (exfalso; omega)
                  | refine Wo.neq (fun _ => ?_) (fun _ => ?_) <;> try (exfalso; omega)
                  | refine Wo.seq (fun _ => ?_) (fun _ => ?_)
                  | refine Wo.sne (fun _ => ?_) (fun _ => ?_)
                  | refine Wo.eqS (fun _ => ?_) (fun _ => ?_)
                  | refine Wo.neS (fun _ => ?_) (fun _ => ?_)
                  | refine Wo.add ?_
                  | refine Wo.sub ?_
                  | refine Wo.loadW ?_
                  | refine Wo.loadSt ?_
                  | refine Wo.load ?_
                  | refine Wo.storeW ?_
                  | refine Wo.store ?_
                  | refine Wo.alloc (fun _ => ?_)
                  | refine Wo.box (fun _ => ?_)
                  | refine Wo.idxA ?_
                  | refine Wo.idx (fun _ _ => ?_)
                  | refine Wo.cutHi (fun _ _ => ?_)
                  | refine Wo.cutLo (fun _ _ => ?_)
                  | refine Wo.cutBoth (fun _ _ => ?_)
                  | refine Wo.byteA ?_
                  | refine Wo.byte (fun _ _ => ?_)
                  | refine Wo.loadEw ?_
                  | refine Wo.loadE ?_
                  | refine Wo.loadL ?_
                  | refine Wo.build ?_
                  | refine Wo.clos ?_
                  | refine Wo.idxO ?_
                  | refine Wo.loadMA ?_
                  | refine Wo.loadR ?_
                  | refine Wo.loadM (fun _ _ => ?_)
                  | refine Wo.row (sz := 1) (fun _ => ?_)
                  | refine Wo.row (sz := 2) (fun _ => ?_)
                  | refine Wo.row (sz := 4) (fun _ => ?_)
                  | refine Wo.row (sz := 5) (fun _ => ?_)
                  | refine Wo.makeB (fun _ => ?_)
                  | refine Wo.makeI (fun _ => ?_)
                  | refine Wo.cutO ?_
                  | refine Wo.app1 (fun _ => ?_)
                  | refine Wo.storeM ?_
                  | refine Wo.row0 ?_
                  | refine Wo.len ?_
                  | refine Wo.pure ?_
                  | refine Wo.shut ?_
                  | refine Wo.shut' ?_
                  | fail)
              | refine Wx.seq ?_
              | refine Wx.plain ?_
              | (guard_target =~ QX _ _ _ _ _ _ _ _
                 first
                  | refine Wq.normal ?_
                  | refine Wq.exit ?_
                  | refine Wq.ret ?_
                  | refine Wb.normal ?_
                  | refine Wb.hit ?_
                  | refine Wb.miss ?_
                  | refine Wb.ret ?_
                  | refine Wl.ret ?_
                  | refine Wl.normal ?_
                  | fail)
              | refine Wx.yes ?_
              | refine Wx.no ?_
              | refine Wx.block ?_
              | refine Wx.exit ?_
              | refine Wx.ret ?_
              | refine Wx.skip ?_
              | refine Wx.scope ?_
              | refine Wx.still ?_
              | refine Wx.dyn ?_
              | fail)
            exact Rd (k + 1) (by omega) ⟨by omega, trivial⟩
        · repeat' (first
            | refine Wo.move ?_
            | refine Wo.assign ?_
            | refine Wo.nil ?_
            | refine Wo.nilD ?_
            | (guard_target =~ WX _ _ _ _ _ _ _ _ _ _ _ _
               first
                | refine Wo.lss (fun _ => ?_) (fun _ => ?_) <;> try (exfalso; omega)
                | refine Wo.leq (fun _ => ?_) (fun _ => ?_) <;> try (exfalso; omega)
                | refine Wo.gtr (fun _ => ?_) (fun _ => ?_) <;> try (exfalso; omega)
                | refine Wo.geq (fun _ => ?_) (fun _ => ?_) <;> try (exfalso; omega)
                | refine Wo.eql (fun _ => ?_) (fun _ => ?_) <;> try (exfalso; omega)
                | refine Wo.neq (fun _ => ?_) (fun _ => ?_) <;> try (exfalso; omega)
                | refine Wo.seq (fun _ => ?_) (fun _ => ?_)
                | refine Wo.sne (fun _ => ?_) (fun _ => ?_)
                | refine Wo.eqS (fun _ => ?_) (fun _ => ?_)
                | refine Wo.neS (fun _ => ?_) (fun _ => ?_)
                | refine Wo.add ?_
                | refine Wo.sub ?_
                | refine Wo.loadW ?_
                | refine Wo.loadSt ?_
                | refine Wo.load ?_
                | refine Wo.storeW ?_
                | refine Wo.store ?_
                | refine Wo.alloc (fun _ => ?_)
                | refine Wo.box (fun _ => ?_)
                | refine Wo.idxA ?_
                | refine Wo.idx (fun _ _ => ?_)
                | refine Wo.cutHi (fun _ _ => ?_)
                | refine Wo.cutLo (fun _ _ => ?_)
                | refine Wo.cutBoth (fun _ _ => ?_)
                | refine Wo.byteA ?_
                | refine Wo.byte (fun _ _ => ?_)
                | refine Wo.loadEw ?_
                | refine Wo.loadE ?_
                | refine Wo.loadL ?_
                | refine Wo.build ?_
                | refine Wo.clos ?_
                | refine Wo.idxO ?_
                | refine Wo.loadMA ?_
                | refine Wo.loadR ?_
                | refine Wo.loadM (fun _ _ => ?_)
                | refine Wo.row (sz := 1) (fun _ => ?_)
                | refine Wo.row (sz := 2) (fun _ => ?_)
                | refine Wo.row (sz := 4) (fun _ => ?_)
                | refine Wo.row (sz := 5) (fun _ => ?_)
                | refine Wo.makeB (fun _ => ?_)
                | refine Wo.makeI (fun _ => ?_)
                | refine Wo.cutO ?_
                | refine Wo.app1 (fun _ => ?_)
                | refine Wo.storeM ?_
                | refine Wo.row0 ?_
                | refine Wo.len ?_
                | refine Wo.pure ?_
                | refine Wo.shut ?_
                | refine Wo.shut' ?_
                | fail)
            | refine Wx.seq ?_
            | refine Wx.plain ?_
            | (guard_target =~ QX _ _ _ _ _ _ _ _
               first
                | refine Wq.normal ?_
                | refine Wq.exit ?_
                | refine Wq.ret ?_
                | refine Wb.normal ?_
                | refine Wb.hit ?_
                | refine Wb.miss ?_
                | refine Wb.ret ?_
                | refine Wl.ret ?_
                | refine Wl.normal ?_
                | fail)
            | refine Wx.yes ?_
            | refine Wx.no ?_
            | refine Wx.block ?_
            | refine Wx.exit ?_
            | refine Wx.ret ?_
            | refine Wx.skip ?_
            | refine Wx.scope ?_
            | refine Wx.still ?_
            | refine Wx.dyn ?_
            | fail)
          all_goals rfl
  · refine Runs.told (fn := Try.f5) (n := 75) [(0, .val (tbV t)), (1, .val (iv n))] [(0, .gone 0), (1, .gone 0)] rfl Try.func5 rfl rfl (by kernel_rfl) rfl (by repeat' constructor) (by repeat' constructor) ?_
    repeat' (first
      | refine Wo.move ?_
      | refine Wo.assign ?_
      | refine Wo.nil ?_
      | refine Wo.nilD ?_
      | (guard_target =~ WX _ _ _ _ _ _ _ _ _ _ _ _
         first
          | refine Wo.lss (fun _ => ?_) (fun _ => ?_) <;> try (exfalso; omega)
          | refine Wo.leq (fun _ => ?_) (fun _ => ?_) <;> try (exfalso; omega)
          | refine Wo.gtr (fun _ => ?_) (fun _ => ?_) <;> try (exfalso; omega)
          | refine Wo.geq (fun _ => ?_) (fun _ => ?_) <;> try (exfalso; omega)
          | refine Wo.eql (fun _ => ?_) (fun _ => ?_) <;> try (exfalso; omega)
          | refine Wo.neq (fun _ => ?_) (fun _ => ?_) <;> try (exfalso; omega)
          | refine Wo.seq (fun _ => ?_) (fun _ => ?_)
          | refine Wo.sne (fun _ => ?_) (fun _ => ?_)
          | refine Wo.eqS (fun _ => ?_) (fun _ => ?_)
          | refine Wo.neS (fun _ => ?_) (fun _ => ?_)
          | refine Wo.add ?_
          | refine Wo.sub ?_
          | refine Wo.loadW ?_
          | refine Wo.loadSt ?_
          | refine Wo.load ?_
          | refine Wo.storeW ?_
          | refine Wo.store ?_
          | refine Wo.alloc (fun _ => ?_)
          | refine Wo.box (fun _ => ?_)
          | refine Wo.idxA ?_
          | refine Wo.idx (fun _ _ => ?_)
          | refine Wo.cutHi (fun _ _ => ?_)
          | refine Wo.cutLo (fun _ _ => ?_)
          | refine Wo.cutBoth (fun _ _ => ?_)
          | refine Wo.byteA ?_
          | refine Wo.byte (fun _ _ => ?_)
          | refine Wo.loadEw ?_
          | refine Wo.loadE ?_
          | refine Wo.loadL ?_
          | refine Wo.build ?_
          | refine Wo.clos ?_
          | refine Wo.idxO ?_
          | refine Wo.loadMA ?_
          | refine Wo.loadR ?_
          | refine Wo.loadM (fun _ _ => ?_)
          | refine Wo.row (sz := 1) (fun _ => ?_)
          | refine Wo.row (sz := 2) (fun _ => ?_)
          | refine Wo.row (sz := 4) (fun _ => ?_)
          | refine Wo.row (sz := 5) (fun _ => ?_)
          | refine Wo.makeB (fun _ => ?_)
          | refine Wo.makeI (fun _ => ?_)
          | refine Wo.cutO ?_
          | refine Wo.app1 (fun _ => ?_)
          | refine Wo.storeM ?_
          | refine Wo.row0 ?_
          | refine Wo.callB (r_awake) (fun _ => ?_) (fun _ => ?_)
          | refine Wo.call0 (r_Check t ht) ?_
          | refine Wo.len ?_
          | refine Wo.pure ?_
          | refine Wo.shut ?_
          | refine Wo.shut' ?_
          | fail)
      | refine Wx.seq ?_
      | refine Wx.plain ?_
      | (guard_target =~ QX _ _ _ _ _ _ _ _
         first
          | refine Wq.normal ?_
          | refine Wq.exit ?_
          | refine Wq.ret ?_
          | refine Wb.normal ?_
          | refine Wb.hit ?_
          | refine Wb.miss ?_
          | refine Wb.ret ?_
          | refine Wl.ret ?_
          | refine Wl.normal ?_
          | fail)
      | refine Wx.yes ?_
      | refine Wx.no ?_
      | refine Wx.block ?_
      | refine Wx.exit ?_
      | refine Wx.ret ?_
      | refine Wx.skip ?_
      | refine Wx.scope ?_
      | refine Wx.still ?_
      | refine Wx.dyn ?_
      | fail)
    all_goals first
      | rfl
      | (exfalso; simp_all; done)
      | skip
    rename_i g1 e1 hc e2 e3 g2 s2 hs2
    exact absurd ⟨hc, by omega, by omega⟩ hz
end Go.Vi.CYtdfhbmallnegfaa
