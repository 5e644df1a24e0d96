/-
  What names may be.
-/
import Derived.Test.YtdfhbmallnegfaaCxA
namespace Go.Vi.CYtdfhbmallnegfaa
open Go.Vi Go.Proofs Go.Proofs.Ytdfhbmallnegfaa
set_option linter.unusedVariables false
set_option maxHeartbeats 8000000
set_option maxRecDepth 100000

theorem r_Name (s : ByteArray) (H : Hp) : Runs Try.prog pol 47 [.val (.str s)] H ([.val (.bool (nameOk s))], [], H) := by
  have h0 := resv_pos s
  refine Runs.told (fn := Try.f47) (n := 47) [(0, .val (.str s))] [(0, .gone 0)] rfl Try.func47 rfl rfl (by kernel_rfl) rfl (by repeat' constructor) (by repeat' constructor) ?_
  repeat' (first
    | refine Wo.move ?_
    | refine Wo.assign ?_
    | refine Wo.nil ?_
    | refine Wo.nilD ?_
    | (guard_target =~ WX _ _ _ _ _ _ _ _ _ _ _ _
       first
        | refine Wo.lss (fun _ => ?_) (fun _ => ?_) <;> try (exfalso; omega)
        | refine Wo.leq (fun _ => ?_) (fun _ => ?_) <;> try (exfalso; omega)
        | refine Wo.gtr (fun _ => ?_) (fun _ => ?_) <;> try (exfalso; omega)
        | refine Wo.geq (fun _ => ?_) (fun _ => ?_) <;> try (exfalso; omega)
        | refine Wo.eql (fun _ => ?_) (fun _ => ?_) <;> try (exfalso; omega)
        | refine Wo.neq (fun _ => ?_) (fun _ => ?_) <;> try (exfalso; omega)
        | refine Wo.seq (fun _ => ?_) (fun _ => ?_)
        | refine Wo.sne (fun _ => ?_) (fun _ => ?_)
        | refine Wo.eqS (fun _ => ?_) (fun _ => ?_)
        | refine Wo.neS (fun _ => ?_) (fun _ => ?_)
        | refine Wo.add ?_
        | refine Wo.sub ?_
        | refine Wo.loadW ?_
        | refine Wo.loadSt ?_
        | refine Wo.load ?_
        | refine Wo.storeW ?_
        | refine Wo.store ?_
        | refine Wo.alloc (fun _ => ?_)
        | refine Wo.box (fun _ => ?_)
        | refine Wo.idxA ?_
        | refine Wo.idx (fun _ _ => ?_)
        | refine Wo.cutHi (fun _ _ => ?_)
        | refine Wo.cutLo (fun _ _ => ?_)
        | refine Wo.cutBoth (fun _ _ => ?_)
        | refine Wo.byteA ?_
        | refine Wo.byte (fun _ _ => ?_)
        | refine Wo.loadEw ?_
        | refine Wo.loadE ?_
        | refine Wo.loadL ?_
        | refine Wo.build ?_
        | refine Wo.clos ?_
        | refine Wo.idxO ?_
        | refine Wo.loadMA ?_
        | refine Wo.loadR ?_
        | refine Wo.loadM (fun _ _ => ?_)
        | refine Wo.row (sz := 1) (fun _ => ?_)
        | refine Wo.row (sz := 2) (fun _ => ?_)
        | refine Wo.row (sz := 4) (fun _ => ?_)
        | refine Wo.row (sz := 5) (fun _ => ?_)
        | refine Wo.makeB (fun _ => ?_)
        | refine Wo.makeI (fun _ => ?_)
        | refine Wo.cutO ?_
        | refine Wo.app1 (fun _ => ?_)
        | refine Wo.storeM ?_
        | refine Wo.row0 ?_
        | refine Wo.callB (r_letter _) (fun _ => ?_) (fun _ => ?_)
        | refine Wo.call0 (r_reserved _) ?_
        | refine Wo.len ?_
        | refine Wo.pure ?_
        | refine Wo.shut ?_
        | refine Wo.shut' ?_
        | fail)
    | refine Wx.seq ?_
    | refine Wx.plain ?_
    | (guard_target =~ QX _ _ _ _ _ _ _ _
       first
        | refine Wq.normal ?_
        | refine Wq.exit ?_
        | refine Wq.ret ?_
        | refine Wb.normal ?_
        | refine Wb.hit ?_
        | refine Wb.miss ?_
        | refine Wb.ret ?_
        | refine Wl.ret ?_
        | refine Wl.normal ?_
        | fail)
    | refine Wx.yes ?_
    | refine Wx.no ?_
    | refine Wx.block ?_
    | refine Wx.exit ?_
    | refine Wx.ret ?_
    | refine Wx.skip ?_
    | refine Wx.scope ?_
    | refine Wx.still ?_
    | refine Wx.dyn ?_
    | fail)
  all_goals first | (simp_all [nameOk] <;> omega) | skip
  refine Wx.loop [0, 24] [0, 15, 20] (fun k => [(25, .val (iv (k : Nat)))]) (fun k => []) (fun k => k ≤ s.size ∧ ∀ j, j < k → chBad s j = none) (fun k => s.size - k) 0 ⟨Nat.zero_le _, fun _ h => by omega⟩ (fun k x y hG => ?_)
  obtain ⟨h1, h2⟩ := hG
  dsimp only [List.cons_append, List.nil_append]
  repeat' (first
    | refine Wo.move ?_
    | refine Wo.assign ?_
    | refine Wo.nil ?_
    | refine Wo.nilD ?_
    | (guard_target =~ WX _ _ _ _ _ _ _ _ _ _ _ _
       first
        | refine Wo.lss (fun _ => ?_) (fun _ => ?_) <;> try (exfalso; omega)
        | refine Wo.leq (fun _ => ?_) (fun _ => ?_) <;> try (exfalso; omega)
        | refine Wo.gtr (fun _ => ?_) (fun _ => ?_) <;> try (exfalso; omega)
        | refine Wo.geq (fun _ => ?_) (fun _ => ?_) <;> try (exfalso; omega)
        | refine Wo.eql (fun _ => ?_) (fun _ => ?_) <;> try (exfalso; omega)
        | refine Wo.neq (fun _ => ?_) (fun _ => ?_) <;> try (exfalso; omega)
        | refine Wo.seq (fun _ => ?_) (fun _ => ?_)
        | refine Wo.sne (fun _ => ?_) (fun _ => ?_)
        | refine Wo.eqS (fun _ => ?_) (fun _ => ?_)
        | refine Wo.neS (fun _ => ?_) (fun _ => ?_)
        | refine Wo.add ?_
        | refine Wo.sub ?_
        | refine Wo.loadW ?_
        | refine Wo.loadSt ?_
        | refine Wo.load ?_
        | refine Wo.storeW ?_
        | refine Wo.store ?_
        | refine Wo.alloc (fun _ => ?_)
        | refine Wo.box (fun _ => ?_)
        | refine Wo.idxA ?_
        | refine Wo.idx (fun _ _ => ?_)
        | refine Wo.cutHi (fun _ _ => ?_)
        | refine Wo.cutLo (fun _ _ => ?_)
        | refine Wo.cutBoth (fun _ _ => ?_)
        | refine Wo.byteA ?_
        | refine Wo.byte (fun _ _ => ?_)
        | refine Wo.loadEw ?_
        | refine Wo.loadE ?_
        | refine Wo.loadL ?_
        | refine Wo.build ?_
        | refine Wo.clos ?_
        | refine Wo.idxO ?_
        | refine Wo.loadMA ?_
        | refine Wo.loadR ?_
        | refine Wo.loadM (fun _ _ => ?_)
        | refine Wo.row (sz := 1) (fun _ => ?_)
        | refine Wo.row (sz := 2) (fun _ => ?_)
        | refine Wo.row (sz := 4) (fun _ => ?_)
        | refine Wo.row (sz := 5) (fun _ => ?_)
        | refine Wo.makeB (fun _ => ?_)
        | refine Wo.makeI (fun _ => ?_)
        | refine Wo.cutO ?_
        | refine Wo.app1 (fun _ => ?_)
        | refine Wo.storeM ?_
        | refine Wo.row0 ?_
        | refine Wo.callB (r_letter _) (fun _ => ?_) (fun _ => ?_)
        | refine Wo.callB (r_digit _) (fun _ => ?_) (fun _ => ?_)
        | refine Wo.len ?_
        | refine Wo.pure ?_
        | refine Wo.shut ?_
        | refine Wo.shut' ?_
        | fail)
    | refine Wx.seq ?_
    | refine Wx.plain ?_
    | (guard_target =~ QX _ _ _ _ _ _ _ _
       first
        | refine Wq.normal ?_
        | refine Wq.exit ?_
        | refine Wq.ret ?_
        | refine Wb.normal ?_
        | refine Wb.hit ?_
        | refine Wb.miss ?_
        | refine Wb.ret ?_
        | refine Wl.ret ?_
        | refine Wl.normal ?_
        | fail)
    | refine Wx.yes ?_
    | refine Wx.no ?_
    | refine Wx.block ?_
    | refine Wx.exit ?_
    | refine Wx.ret ?_
    | refine Wx.skip ?_
    | refine Wx.scope ?_
    | refine Wx.still ?_
    | refine Wx.dyn ?_
    | fail)
  all_goals first
    | (refine Rd (k + 1) (by omega) ⟨by omega, none_succ h2 ?_⟩; simp_all [chBad, chOk]; done)
    | (have hk := scan_found (p := chBad s) (b := ()) h2 (by simp_all [chBad, chOk]) (n := s.size) (by omega); simp [nameOk, hk]; done)
    | (have hk := scan_none (p := chBad s) (n := s.size) (fun j hj => h2 j (by omega)); simp_all [nameOk]; omega)
theorem r_RName (s : ByteArray) (H : Hp) : Runs Try.prog pol 32 [.val (.str s)] H ([.val (.bool (nameOk s))], [], H) := by
  refine Runs.told (fn := Try.f32) (n := 54) [(0, .val (.str s))] [(0, .gone 0)] rfl Try.func32 rfl rfl (by kernel_rfl) rfl (by repeat' constructor) (by repeat' constructor) ?_
  repeat' (first
    | refine Wo.move ?_
    | refine Wo.assign ?_
    | refine Wo.nil ?_
    | refine Wo.nilD ?_
    | (guard_target =~ WX _ _ _ _ _ _ _ _ _ _ _ _
       first
        | refine Wo.lss (fun _ => ?_) (fun _ => ?_) <;> try (exfalso; omega)
        | refine Wo.leq (fun _ => ?_) (fun _ => ?_) <;> try (exfalso; omega)
        | refine Wo.gtr (fun _ => ?_) (fun _ => ?_) <;> try (exfalso; omega)
        | refine Wo.geq (fun _ => ?_) (fun _ => ?_) <;> try (exfalso; omega)
        | refine Wo.eql (fun _ => ?_) (fun _ => ?_) <;> try (exfalso; omega)
        | refine Wo.neq (fun _ => ?_) (fun _ => ?_) <;> try (exfalso; omega)
        | refine Wo.seq (fun _ => ?_) (fun _ => ?_)
        | refine Wo.sne (fun _ => ?_) (fun _ => ?_)
        | refine Wo.eqS (fun _ => ?_) (fun _ => ?_)
        | refine Wo.neS (fun _ => ?_) (fun _ => ?_)
        | refine Wo.add ?_
        | refine Wo.sub ?_
        | refine Wo.loadW ?_
        | refine Wo.loadSt ?_
        | refine Wo.load ?_
        | refine Wo.storeW ?_
        | refine Wo.store ?_
        | refine Wo.alloc (fun _ => ?_)
        | refine Wo.box (fun _ => ?_)
        | refine Wo.idxA ?_
        | refine Wo.idx (fun _ _ => ?_)
        | refine Wo.cutHi (fun _ _ => ?_)
        | refine Wo.cutLo (fun _ _ => ?_)
        | refine Wo.cutBoth (fun _ _ => ?_)
        | refine Wo.byteA ?_
        | refine Wo.byte (fun _ _ => ?_)
        | refine Wo.loadEw ?_
        | refine Wo.loadE ?_
        | refine Wo.loadL ?_
        | refine Wo.build ?_
        | refine Wo.clos ?_
        | refine Wo.idxO ?_
        | refine Wo.loadMA ?_
        | refine Wo.loadR ?_
        | refine Wo.loadM (fun _ _ => ?_)
        | refine Wo.row (sz := 1) (fun _ => ?_)
        | refine Wo.row (sz := 2) (fun _ => ?_)
        | refine Wo.row (sz := 4) (fun _ => ?_)
        | refine Wo.row (sz := 5) (fun _ => ?_)
        | refine Wo.makeB (fun _ => ?_)
        | refine Wo.makeI (fun _ => ?_)
        | refine Wo.cutO ?_
        | refine Wo.app1 (fun _ => ?_)
        | refine Wo.storeM ?_
        | refine Wo.row0 ?_
        | refine Wo.callB (r_Rletter _) (fun _ => ?_) (fun _ => ?_)
        | refine Wo.len ?_
        | refine Wo.pure ?_
        | refine Wo.shut ?_
        | refine Wo.shut' ?_
        | fail)
    | refine Wx.seq ?_
    | refine Wx.plain ?_
    | (guard_target =~ QX _ _ _ _ _ _ _ _
       first
        | refine Wq.normal ?_
        | refine Wq.exit ?_
        | refine Wq.ret ?_
        | refine Wb.normal ?_
        | refine Wb.hit ?_
        | refine Wb.miss ?_
        | refine Wb.ret ?_
        | refine Wl.ret ?_
        | refine Wl.normal ?_
        | fail)
    | refine Wx.yes ?_
    | refine Wx.no ?_
    | refine Wx.block ?_
    | refine Wx.exit ?_
    | refine Wx.ret ?_
    | refine Wx.skip ?_
    | refine Wx.scope ?_
    | refine Wx.still ?_
    | refine Wx.dyn ?_
    | fail)
  all_goals first | (simp_all [nameOk, resv, wMin, wMax, wIf] <;> omega) | skip
  refine Wx.loop [0] [0, 27] (fun k => [(3, .val (iv (k : Nat)))]) (fun k => []) (fun k => k ≤ s.size ∧ ∀ j, j < k → chBad s j = none) (fun k => s.size - k) 0 ⟨Nat.zero_le _, fun _ h => by omega⟩ (fun k x y hG => ?_)
  obtain ⟨h1, h2⟩ := hG
  dsimp only [List.cons_append, List.nil_append]
  repeat' (first
    | refine Wo.move ?_
    | refine Wo.assign ?_
    | refine Wo.nil ?_
    | refine Wo.nilD ?_
    | (guard_target =~ WX _ _ _ _ _ _ _ _ _ _ _ _
       first
        | refine Wo.lss (fun _ => ?_) (fun _ => ?_) <;> try (exfalso; omega)
        | refine Wo.leq (fun _ => ?_) (fun _ => ?_) <;> try (exfalso; omega)
        | refine Wo.gtr (fun _ => ?_) (fun _ => ?_) <;> try (exfalso; omega)
        | refine Wo.geq (fun _ => ?_) (fun _ => ?_) <;> try (exfalso; omega)
        | refine Wo.eql (fun _ => ?_) (fun _ => ?_) <;> try (exfalso; omega)
        | refine Wo.neq (fun _ => ?_) (fun _ => ?_) <;> try (exfalso; omega)
        | refine Wo.seq (fun _ => ?_) (fun _ => ?_)
        | refine Wo.sne (fun _ => ?_) (fun _ => ?_)
        | refine Wo.eqS (fun _ => ?_) (fun _ => ?_)
        | refine Wo.neS (fun _ => ?_) (fun _ => ?_)
        | refine Wo.add ?_
        | refine Wo.sub ?_
        | refine Wo.loadW ?_
        | refine Wo.loadSt ?_
        | refine Wo.load ?_
        | refine Wo.storeW ?_
        | refine Wo.store ?_
        | refine Wo.alloc (fun _ => ?_)
        | refine Wo.box (fun _ => ?_)
        | refine Wo.idxA ?_
        | refine Wo.idx (fun _ _ => ?_)
        | refine Wo.cutHi (fun _ _ => ?_)
        | refine Wo.cutLo (fun _ _ => ?_)
        | refine Wo.cutBoth (fun _ _ => ?_)
        | refine Wo.byteA ?_
        | refine Wo.byte (fun _ _ => ?_)
        | refine Wo.loadEw ?_
        | refine Wo.loadE ?_
        | refine Wo.loadL ?_
        | refine Wo.build ?_
        | refine Wo.clos ?_
        | refine Wo.idxO ?_
        | refine Wo.loadMA ?_
        | refine Wo.loadR ?_
        | refine Wo.loadM (fun _ _ => ?_)
        | refine Wo.row (sz := 1) (fun _ => ?_)
        | refine Wo.row (sz := 2) (fun _ => ?_)
        | refine Wo.row (sz := 4) (fun _ => ?_)
        | refine Wo.row (sz := 5) (fun _ => ?_)
        | refine Wo.makeB (fun _ => ?_)
        | refine Wo.makeI (fun _ => ?_)
        | refine Wo.cutO ?_
        | refine Wo.app1 (fun _ => ?_)
        | refine Wo.storeM ?_
        | refine Wo.row0 ?_
        | refine Wo.callB (r_Rletter _) (fun _ => ?_) (fun _ => ?_)
        | refine Wo.callB (r_Rdigit _) (fun _ => ?_) (fun _ => ?_)
        | refine Wo.len ?_
        | refine Wo.pure ?_
        | refine Wo.shut ?_
        | refine Wo.shut' ?_
        | fail)
    | refine Wx.seq ?_
    | refine Wx.plain ?_
    | (guard_target =~ QX _ _ _ _ _ _ _ _
       first
        | refine Wq.normal ?_
        | refine Wq.exit ?_
        | refine Wq.ret ?_
        | refine Wb.normal ?_
        | refine Wb.hit ?_
        | refine Wb.miss ?_
        | refine Wb.ret ?_
        | refine Wl.ret ?_
        | refine Wl.normal ?_
        | fail)
    | refine Wx.yes ?_
    | refine Wx.no ?_
    | refine Wx.block ?_
    | refine Wx.exit ?_
    | refine Wx.ret ?_
    | refine Wx.skip ?_
    | refine Wx.scope ?_
    | refine Wx.still ?_
    | refine Wx.dyn ?_
    | fail)
  all_goals first
    | (refine Rd (k + 1) (by omega) ⟨by omega, none_succ h2 ?_⟩; simp_all [chBad, chOk]; done)
    | (have hk := scan_found (p := chBad s) (b := ()) h2 (by simp_all [chBad, chOk]) (n := s.size) (by omega); simp [nameOk, hk]; done)
    | (have hk := scan_none (p := chBad s) (n := s.size) (fun j hj => h2 j (by omega)); have hs : 1 ≤ s.size ∧ s.size ≤ 24 := by omega; simp_all [nameOk, resv, wMin, wMax, wIf]; done)
    | skip
  have hk := scan_none (p := chBad s) (n := s.size) (fun j hj => h2 j (by omega))
  have hs : 1 ≤ s.size ∧ s.size ≤ 24 := by omega
  have e : nameOk s = true := by
    have e0 : resv s = 0 := by simp [resv, wMin, wMax, wIf, *]
    simp only [nameOk, hk, hs, e0]
    simp_all
  rw [e]

end Go.Vi.CYtdfhbmallnegfaa
