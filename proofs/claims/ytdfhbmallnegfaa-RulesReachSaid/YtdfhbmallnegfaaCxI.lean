/-
  The sample.
-/
import Derived.Test.YtdfhbmallnegfaaCxH
import Derived.Test.YtdfhbmallnegfaaV3
namespace Go.Vi.CYtdfhbmallnegfaa
open Go.Vi Go.Proofs Go.Proofs.Ytdfhbmallnegfaa
set_option linter.unusedVariables false
set_option maxHeartbeats 8000000
set_option maxRecDepth 100000
set_option linter.unusedSimpArgs false

def iV (n : Int) : Ins := ⟨2, n⟩
def iA (n : Int) : Ins := ⟨3, n⟩
def iC (n : Int) : Ins := ⟨1, n⟩
def iO (n : Int) : Ins := ⟨n, 0⟩
def sDraft : ByteArray := ⟨#[100, 114, 97, 102, 116]⟩
def sOpen : ByteArray := ⟨#[111, 112, 101, 110]⟩
def sDone : ByteArray := ⟨#[100, 111, 110, 101]⟩
def sTotal : ByteArray := ⟨#[116, 111, 116, 97, 108]⟩
def sMany : ByteArray := ⟨#[109, 97, 110, 121]⟩
def sAdd : ByteArray := ⟨#[97, 100, 100]⟩
def sDouble : ByteArray := ⟨#[100, 111, 117, 98, 108, 101]⟩
def sClose : ByteArray := ⟨#[99, 108, 111, 115, 101]⟩
def sAgain : ByteArray := ⟨#[97, 103, 97, 105, 110]⟩
def sRules (fr : List Int) : List Rl := [
  ⟨sAdd, 1, some [0, 1], some [⟨16, some [iC 0, iA 0, iO 11]⟩, ⟨17, some [iV 1, iC 5, iO 11]⟩], some [⟨some [⟨0, some [iV 0, iA 0, iO 6]⟩, ⟨1, some [iV 1, iC 1, iO 6]⟩], 1⟩]⟩,
  ⟨sDouble, 0, some fr, none, some [⟨some [⟨0, some [iV 0, iC 2, iO 8]⟩], -1⟩, ⟨some [⟨1, some [iV 0, iC 9, iO 9]⟩], -1⟩]⟩,
  ⟨sClose, 0, some [1], some [⟨20, some [iC 3, iV 0, iO 12]⟩], some [⟨none, 2⟩]⟩,
  ⟨sAgain, 2, none, none, some [⟨some [⟨0, some [iA 0, iA 1, iO 7]⟩], 0⟩]⟩]
def sTb (fr : List Int) : Tb := ⟨some [sDraft, sOpen, sDone], some [sTotal, sMany], some [0, 0], some (sRules fr)⟩
def sampleR : RV := .st [.own [.str sDraft, .str sOpen, .str sDone] 1, .own [.str sTotal, .str sMany] 1, .own [iv 0, iv 0] 1, .own ((sRules [1]).map rlV) 5]
theorem r_c (n : Int) (H : Hp) : Runs Try.prog pol 39 [.val (iv n)] H ([.val (.agg [iv 1, iv n])], [], H) := by
  refine Runs.told (fn := Try.f39) (n := 5) [(0, .val (iv n))] [(0, .gone 0)] rfl Try.func39 rfl rfl (by kernel_rfl) rfl (by repeat' constructor) (by repeat' constructor) ?_
  repeat' (first
    | refine Wo.move ?_
    | refine Wo.assign ?_
    | refine Wo.nil ?_
    | refine Wo.nilD ?_
    | (guard_target =~ WX _ _ _ _ _ _ _ _ _ _ _ _
       first
        | refine Wo.lss (fun _ => ?_) (fun _ => ?_) <;> try (exfalso; omega)
        | refine Wo.leq (fun _ => ?_) (fun _ => ?_) <;> try (exfalso; omega)
        | refine Wo.gtr (fun _ => ?_) (fun _ => ?_) <;> try (exfalso; omega)
        | refine Wo.geq (fun _ => ?_) (fun _ => ?_) <;> try (exfalso; omega)
        | refine Wo.eql (fun _ => ?_) (fun _ => ?_) <;> try (exfalso; omega)
        | refine Wo.neq (fun _ => ?_) (fun _ => ?_) <;> try (exfalso; omega)
        | refine Wo.seq (fun _ => ?_) (fun _ => ?_)
        | refine Wo.sne (fun _ => ?_) (fun _ => ?_)
        | refine Wo.eqS (fun _ => ?_) (fun _ => ?_)
        | refine Wo.neS (fun _ => ?_) (fun _ => ?_)
        | refine Wo.add ?_
        | refine Wo.sub ?_
        | refine Wo.loadW ?_
        | refine Wo.loadSt ?_
        | refine Wo.load ?_
        | refine Wo.storeW ?_
        | refine Wo.store ?_
        | refine Wo.alloc (fun _ => ?_)
        | refine Wo.box (fun _ => ?_)
        | refine Wo.idxA ?_
        | refine Wo.idx (fun _ _ => ?_)
        | refine Wo.cutHi (fun _ _ => ?_)
        | refine Wo.cutLo (fun _ _ => ?_)
        | refine Wo.cutBoth (fun _ _ => ?_)
        | refine Wo.byteA ?_
        | refine Wo.byte (fun _ _ => ?_)
        | refine Wo.loadEw ?_
        | refine Wo.loadE ?_
        | refine Wo.loadL ?_
        | refine Wo.build ?_
        | refine Wo.clos ?_
        | refine Wo.idxO ?_
        | refine Wo.loadMA ?_
        | refine Wo.loadR ?_
        | refine Wo.loadM (fun _ _ => ?_)
        | refine Wo.row (sz := 1) (fun _ => ?_)
        | refine Wo.row (sz := 2) (fun _ => ?_)
        | refine Wo.row (sz := 4) (fun _ => ?_)
        | refine Wo.row (sz := 5) (fun _ => ?_)
        | refine Wo.makeB (fun _ => ?_)
        | refine Wo.makeI (fun _ => ?_)
        | refine Wo.cutO ?_
        | refine Wo.app1 (fun _ => ?_)
        | refine Wo.storeM ?_
        | refine Wo.row0 ?_
        | refine Wo.len ?_
        | refine Wo.pure ?_
        | refine Wo.shut ?_
        | refine Wo.shut' ?_
        | fail)
    | refine Wx.seq ?_
    | refine Wx.plain ?_
    | (guard_target =~ QX _ _ _ _ _ _ _ _
       first
        | refine Wq.normal ?_
        | refine Wq.exit ?_
        | refine Wq.ret ?_
        | refine Wb.normal ?_
        | refine Wb.hit ?_
        | refine Wb.miss ?_
        | refine Wb.ret ?_
        | refine Wl.ret ?_
        | refine Wl.normal ?_
        | fail)
    | refine Wx.yes ?_
    | refine Wx.no ?_
    | refine Wx.block ?_
    | refine Wx.exit ?_
    | refine Wx.ret ?_
    | refine Wx.skip ?_
    | refine Wx.scope ?_
    | refine Wx.still ?_
    | refine Wx.dyn ?_
    | fail)
  rfl
theorem r_a (n : Int) (H : Hp) : Runs Try.prog pol 40 [.val (iv n)] H ([.val (.agg [iv 3, iv n])], [], H) := by
  refine Runs.told (fn := Try.f40) (n := 5) [(0, .val (iv n))] [(0, .gone 0)] rfl Try.func40 rfl rfl (by kernel_rfl) rfl (by repeat' constructor) (by repeat' constructor) ?_
  repeat' (first
    | refine Wo.move ?_
    | refine Wo.assign ?_
    | refine Wo.nil ?_
    | refine Wo.nilD ?_
    | (guard_target =~ WX _ _ _ _ _ _ _ _ _ _ _ _
       first
        | refine Wo.lss (fun _ => ?_) (fun _ => ?_) <;> try (exfalso; omega)
        | refine Wo.leq (fun _ => ?_) (fun _ => ?_) <;> try (exfalso; omega)
        | refine Wo.gtr (fun _ => ?_) (fun _ => ?_) <;> try (exfalso; omega)
        | refine Wo.geq (fun _ => ?_) (fun _ => ?_) <;> try (exfalso; omega)
        | refine Wo.eql (fun _ => ?_) (fun _ => ?_) <;> try (exfalso; omega)
        | refine Wo.neq (fun _ => ?_) (fun _ => ?_) <;> try (exfalso; omega)
        | refine Wo.seq (fun _ => ?_) (fun _ => ?_)
        | refine Wo.sne (fun _ => ?_) (fun _ => ?_)
        | refine Wo.eqS (fun _ => ?_) (fun _ => ?_)
        | refine Wo.neS (fun _ => ?_) (fun _ => ?_)
        | refine Wo.add ?_
        | refine Wo.sub ?_
        | refine Wo.loadW ?_
        | refine Wo.loadSt ?_
        | refine Wo.load ?_
        | refine Wo.storeW ?_
        | refine Wo.store ?_
        | refine Wo.alloc (fun _ => ?_)
        | refine Wo.box (fun _ => ?_)
        | refine Wo.idxA ?_
        | refine Wo.idx (fun _ _ => ?_)
        | refine Wo.cutHi (fun _ _ => ?_)
        | refine Wo.cutLo (fun _ _ => ?_)
        | refine Wo.cutBoth (fun _ _ => ?_)
        | refine Wo.byteA ?_
        | refine Wo.byte (fun _ _ => ?_)
        | refine Wo.loadEw ?_
        | refine Wo.loadE ?_
        | refine Wo.loadL ?_
        | refine Wo.build ?_
        | refine Wo.clos ?_
        | refine Wo.idxO ?_
        | refine Wo.loadMA ?_
        | refine Wo.loadR ?_
        | refine Wo.loadM (fun _ _ => ?_)
        | refine Wo.row (sz := 1) (fun _ => ?_)
        | refine Wo.row (sz := 2) (fun _ => ?_)
        | refine Wo.row (sz := 4) (fun _ => ?_)
        | refine Wo.row (sz := 5) (fun _ => ?_)
        | refine Wo.makeB (fun _ => ?_)
        | refine Wo.makeI (fun _ => ?_)
        | refine Wo.cutO ?_
        | refine Wo.app1 (fun _ => ?_)
        | refine Wo.storeM ?_
        | refine Wo.row0 ?_
        | refine Wo.len ?_
        | refine Wo.pure ?_
        | refine Wo.shut ?_
        | refine Wo.shut' ?_
        | fail)
    | refine Wx.seq ?_
    | refine Wx.plain ?_
    | (guard_target =~ QX _ _ _ _ _ _ _ _
       first
        | refine Wq.normal ?_
        | refine Wq.exit ?_
        | refine Wq.ret ?_
        | refine Wb.normal ?_
        | refine Wb.hit ?_
        | refine Wb.miss ?_
        | refine Wb.ret ?_
        | refine Wl.ret ?_
        | refine Wl.normal ?_
        | fail)
    | refine Wx.yes ?_
    | refine Wx.no ?_
    | refine Wx.block ?_
    | refine Wx.exit ?_
    | refine Wx.ret ?_
    | refine Wx.skip ?_
    | refine Wx.scope ?_
    | refine Wx.still ?_
    | refine Wx.dyn ?_
    | fail)
  rfl
theorem r_v (n : Int) (H : Hp) : Runs Try.prog pol 42 [.val (iv n)] H ([.val (.agg [iv 2, iv n])], [], H) := by
  refine Runs.told (fn := Try.f42) (n := 5) [(0, .val (iv n))] [(0, .gone 0)] rfl Try.func42 rfl rfl (by kernel_rfl) rfl (by repeat' constructor) (by repeat' constructor) ?_
  repeat' (first
    | refine Wo.move ?_
    | refine Wo.assign ?_
    | refine Wo.nil ?_
    | refine Wo.nilD ?_
    | (guard_target =~ WX _ _ _ _ _ _ _ _ _ _ _ _
       first
        | refine Wo.lss (fun _ => ?_) (fun _ => ?_) <;> try (exfalso; omega)
        | refine Wo.leq (fun _ => ?_) (fun _ => ?_) <;> try (exfalso; omega)
        | refine Wo.gtr (fun _ => ?_) (fun _ => ?_) <;> try (exfalso; omega)
        | refine Wo.geq (fun _ => ?_) (fun _ => ?_) <;> try (exfalso; omega)
        | refine Wo.eql (fun _ => ?_) (fun _ => ?_) <;> try (exfalso; omega)
        | refine Wo.neq (fun _ => ?_) (fun _ => ?_) <;> try (exfalso; omega)
        | refine Wo.seq (fun _ => ?_) (fun _ => ?_)
        | refine Wo.sne (fun _ => ?_) (fun _ => ?_)
        | refine Wo.eqS (fun _ => ?_) (fun _ => ?_)
        | refine Wo.neS (fun _ => ?_) (fun _ => ?_)
        | refine Wo.add ?_
        | refine Wo.sub ?_
        | refine Wo.loadW ?_
        | refine Wo.loadSt ?_
        | refine Wo.load ?_
        | refine Wo.storeW ?_
        | refine Wo.store ?_
        | refine Wo.alloc (fun _ => ?_)
        | refine Wo.box (fun _ => ?_)
        | refine Wo.idxA ?_
        | refine Wo.idx (fun _ _ => ?_)
        | refine Wo.cutHi (fun _ _ => ?_)
        | refine Wo.cutLo (fun _ _ => ?_)
        | refine Wo.cutBoth (fun _ _ => ?_)
        | refine Wo.byteA ?_
        | refine Wo.byte (fun _ _ => ?_)
        | refine Wo.loadEw ?_
        | refine Wo.loadE ?_
        | refine Wo.loadL ?_
        | refine Wo.build ?_
        | refine Wo.clos ?_
        | refine Wo.idxO ?_
        | refine Wo.loadMA ?_
        | refine Wo.loadR ?_
        | refine Wo.loadM (fun _ _ => ?_)
        | refine Wo.row (sz := 1) (fun _ => ?_)
        | refine Wo.row (sz := 2) (fun _ => ?_)
        | refine Wo.row (sz := 4) (fun _ => ?_)
        | refine Wo.row (sz := 5) (fun _ => ?_)
        | refine Wo.makeB (fun _ => ?_)
        | refine Wo.makeI (fun _ => ?_)
        | refine Wo.cutO ?_
        | refine Wo.app1 (fun _ => ?_)
        | refine Wo.storeM ?_
        | refine Wo.row0 ?_
        | refine Wo.len ?_
        | refine Wo.pure ?_
        | refine Wo.shut ?_
        | refine Wo.shut' ?_
        | fail)
    | refine Wx.seq ?_
    | refine Wx.plain ?_
    | (guard_target =~ QX _ _ _ _ _ _ _ _
       first
        | refine Wq.normal ?_
        | refine Wq.exit ?_
        | refine Wq.ret ?_
        | refine Wb.normal ?_
        | refine Wb.hit ?_
        | refine Wb.miss ?_
        | refine Wb.ret ?_
        | refine Wl.ret ?_
        | refine Wl.normal ?_
        | fail)
    | refine Wx.yes ?_
    | refine Wx.no ?_
    | refine Wx.block ?_
    | refine Wx.exit ?_
    | refine Wx.ret ?_
    | refine Wx.skip ?_
    | refine Wx.scope ?_
    | refine Wx.still ?_
    | refine Wx.dyn ?_
    | fail)
  rfl
theorem r_o (n : Int) (H : Hp) : Runs Try.prog pol 41 [.val (iv n)] H ([.val (.agg [iv n, iv 0])], [], H) := by
  refine Runs.told (fn := Try.f41) (n := 5) [(0, .val (iv n))] [(0, .gone 0)] rfl Try.func41 rfl rfl (by kernel_rfl) rfl (by repeat' constructor) (by repeat' constructor) ?_
  repeat' (first
    | refine Wo.move ?_
    | refine Wo.assign ?_
    | refine Wo.nil ?_
    | refine Wo.nilD ?_
    | (guard_target =~ WX _ _ _ _ _ _ _ _ _ _ _ _
       first
        | refine Wo.lss (fun _ => ?_) (fun _ => ?_) <;> try (exfalso; omega)
        | refine Wo.leq (fun _ => ?_) (fun _ => ?_) <;> try (exfalso; omega)
        | refine Wo.gtr (fun _ => ?_) (fun _ => ?_) <;> try (exfalso; omega)
        | refine Wo.geq (fun _ => ?_) (fun _ => ?_) <;> try (exfalso; omega)
        | refine Wo.eql (fun _ => ?_) (fun _ => ?_) <;> try (exfalso; omega)
        | refine Wo.neq (fun _ => ?_) (fun _ => ?_) <;> try (exfalso; omega)
        | refine Wo.seq (fun _ => ?_) (fun _ => ?_)
        | refine Wo.sne (fun _ => ?_) (fun _ => ?_)
        | refine Wo.eqS (fun _ => ?_) (fun _ => ?_)
        | refine Wo.neS (fun _ => ?_) (fun _ => ?_)
        | refine Wo.add ?_
        | refine Wo.sub ?_
        | refine Wo.loadW ?_
        | refine Wo.loadSt ?_
        | refine Wo.load ?_
        | refine Wo.storeW ?_
        | refine Wo.store ?_
        | refine Wo.alloc (fun _ => ?_)
        | refine Wo.box (fun _ => ?_)
        | refine Wo.idxA ?_
        | refine Wo.idx (fun _ _ => ?_)
        | refine Wo.cutHi (fun _ _ => ?_)
        | refine Wo.cutLo (fun _ _ => ?_)
        | refine Wo.cutBoth (fun _ _ => ?_)
        | refine Wo.byteA ?_
        | refine Wo.byte (fun _ _ => ?_)
        | refine Wo.loadEw ?_
        | refine Wo.loadE ?_
        | refine Wo.loadL ?_
        | refine Wo.build ?_
        | refine Wo.clos ?_
        | refine Wo.idxO ?_
        | refine Wo.loadMA ?_
        | refine Wo.loadR ?_
        | refine Wo.loadM (fun _ _ => ?_)
        | refine Wo.row (sz := 1) (fun _ => ?_)
        | refine Wo.row (sz := 2) (fun _ => ?_)
        | refine Wo.row (sz := 4) (fun _ => ?_)
        | refine Wo.row (sz := 5) (fun _ => ?_)
        | refine Wo.makeB (fun _ => ?_)
        | refine Wo.makeI (fun _ => ?_)
        | refine Wo.cutO ?_
        | refine Wo.app1 (fun _ => ?_)
        | refine Wo.storeM ?_
        | refine Wo.row0 ?_
        | refine Wo.len ?_
        | refine Wo.pure ?_
        | refine Wo.shut ?_
        | refine Wo.shut' ?_
        | fail)
    | refine Wx.seq ?_
    | refine Wx.plain ?_
    | (guard_target =~ QX _ _ _ _ _ _ _ _
       first
        | refine Wq.normal ?_
        | refine Wq.exit ?_
        | refine Wq.ret ?_
        | refine Wb.normal ?_
        | refine Wb.hit ?_
        | refine Wb.miss ?_
        | refine Wb.ret ?_
        | refine Wl.ret ?_
        | refine Wl.normal ?_
        | fail)
    | refine Wx.yes ?_
    | refine Wx.no ?_
    | refine Wx.block ?_
    | refine Wx.exit ?_
    | refine Wx.ret ?_
    | refine Wx.skip ?_
    | refine Wx.scope ?_
    | refine Wx.still ?_
    | refine Wx.dyn ?_
    | fail)
  rfl
theorem r_Sample (H : Hp) : Runs Try.prog pol 27 [] H ([sampleR], [], H) := by
  refine Runs.laid (fn := Try.f27) rfl Try.func27 rfl (by kernel_rfl) ?_
  show WE _ _ _ _ _ ⟨List.replicate 68 (.val .undef), List.replicate 68 (.gone 0)⟩ _
  dsimp only [List.reduceReplicate]
  repeat' (first
    | refine WE.seq ?_
    | refine Wc.plain ?_
    | (refine WO.nil ?_; try dsimp only [PostV.seq])
    | refine Wc.eqT ?_
    | refine Wc.call (r_c _) ?_
    | refine Wc.call (r_a _) ?_
    | refine Wc.call (r_v _) ?_
    | refine Wc.call (r_o _) ?_
    | refine Wc.any ?_
    | refine Wc.shut ?_
    | (refine WE.ret ?_; try dsimp only [PostV.seq])
    | fail)
  refine Wc.ret ?_
  rfl
theorem chk1 : check' (sTb [1]) = ⟨0, 0, 0, 0⟩ := by kernel_rfl
theorem chk3 : check' (sTb [3]) = ⟨3, 1, 7, 0⟩ := by kernel_rfl
def w64B (n : Int) : Bool := decide (-9223372036854775808 ≤ n) && decide (n ≤ 9223372036854775807)
def slB {α : Type} (f : α → Bool) (s : Sl α) : Bool := decide (s.list.length ≤ 9223372036854775807) && s.list.all f
theorem w64B_ok {n : Int} (h : w64B n = true) : w64 n := by simpa [w64B, w64] using h
theorem slB_ok {α : Type} {f : α → Bool} {p : α → Prop} {s : Sl α} (hf : ∀ a, f a = true → p a) (h : slB f s = true) : Sl.ok s ∧ ∀ y ∈ s.list, p y := by
  simp only [slB, Bool.and_eq_true, decide_eq_true_eq, List.all_eq_true] at h
  exact ⟨h.1, fun y hy => hf y (h.2 y hy)⟩
def insB (x : Ins) : Bool := w64B x.op && w64B x.n
def gdB (x : Gd) : Bool := w64B x.code && slB insB x.test
def stB (x : St) : Bool := w64B x.var && slB insB x.value
def spB (x : Sp) : Bool := slB stB x.sets && w64B x.to
def strB (x : ByteArray) : Bool := decide (x.size ≤ 140737488351232)
def rlB (x : Rl) : Bool := strB x.name && (w64B x.args && (slB w64B x.fr && (slB gdB x.guards && slB spB x.steps)))
def tbB (x : Tb) : Bool := slB strB x.states && (slB strB x.vars && (slB w64B x.start && slB rlB x.rules))
theorem tbB_ok {x : Tb} (h : tbB x = true) : x.ok := by
  have hi : ∀ a, insB a = true → a.ok := fun a h => by simp only [insB, Bool.and_eq_true] at h; exact ⟨w64B_ok h.1, w64B_ok h.2⟩
  have hg : ∀ a, gdB a = true → a.ok := fun a h => by simp only [gdB, Bool.and_eq_true] at h; exact ⟨w64B_ok h.1, slB_ok hi h.2⟩
  have ht : ∀ a, stB a = true → a.ok := fun a h => by simp only [stB, Bool.and_eq_true] at h; exact ⟨w64B_ok h.1, slB_ok hi h.2⟩
  have hp : ∀ a, spB a = true → a.ok := fun a h => by simp only [spB, Bool.and_eq_true] at h; exact ⟨slB_ok ht h.1, w64B_ok h.2⟩
  have hs : ∀ a, strB a = true → a.size ≤ 140737488351232 := fun a h => of_decide_eq_true h
  have hr : ∀ a, rlB a = true → a.ok := fun a h => by
    simp only [rlB, Bool.and_eq_true] at h
    exact ⟨hs _ h.1, w64B_ok h.2.1, slB_ok (fun _ => w64B_ok) h.2.2.1, slB_ok hg h.2.2.2.1, slB_ok hp h.2.2.2.2⟩
  simp only [tbB, Bool.and_eq_true] at h
  exact ⟨slB_ok hs h.1, slB_ok hs h.2.1, slB_ok (fun _ => w64B_ok) h.2.2.1, slB_ok hr h.2.2.2⟩
theorem rt1 : right' (sTb [1]) = true := by unfold right'; rw [chk1]; rfl
theorem fnd : find' (sRules [1]) sClose = 2 := by kernel_rfl
theorem for1 : for' (sTb [1]) 3 2 = true := by kernel_rfl
theorem for2 : for' (sTb [1]) 0 2 = false := by kernel_rfl
theorem rch2 : (reach' (sTb [1])) = [true, true, true] := by
  have h0 : Rch (sTb [1]) 0 := .zero
  have h1 : Rch (sTb [1]) 1 := .step (r := (sRules [1])[0]) (n := 0) h0 (by kernel_rfl) (by kernel_rfl)
  have h2 : Rch (sTb [1]) 2 := .step (r := (sRules [1])[2]) (n := 2) h1 (by kernel_rfl) (by kernel_rfl)
  have e : reach' (sTb [1]) = [0, 1, 2].map fun a : Nat => @decide (Rch (sTb [1]) (a : Int)) (Classical.propDecidable _) := rfl
  rw [e]
  simp only [List.map_cons, List.map_nil]
  have h0' : Rch (sTb [1]) ((0 : Nat) : Int) := h0
  have h1' : Rch (sTb [1]) ((1 : Nat) : Int) := h1
  have h2' : Rch (sTb [1]) ((2 : Nat) : Int) := h2
  rw [@decide_eq_true _ (Classical.propDecidable _) h0', @decide_eq_true _ (Classical.propDecidable _) h1', @decide_eq_true _ (Classical.propDecidable _) h2']
theorem r_awake (H : Hp) : Runs Try.prog pol 9 [] H ([.val (.bool true)], [], H) := by
  have hk : (sTb [1]).ok := tbB_ok (by kernel_rfl)
  have hk3 : (sTb [3]).ok := tbB_ok (by kernel_rfl)
  have hr := r_Reach (sTb [1]) hk rt1
  rw [rch2] at hr
  have hc := r_Check (sTb [1]) hk
  rw [chk1] at hc
  have hc3 := r_Check (sTb [3]) hk3
  rw [chk3] at hc3
  have hf := r_Find (sTb [1]) sClose hk
  rw [show (sTb [1]).rules.list = sRules [1] from rfl, fnd] at hf
  have hg := r_For (sTb [1]) 3 2 hk
  rw [for1] at hg
  have hg2 := r_For (sTb [1]) 0 2 hk
  rw [for2] at hg2
  refine Runs.laid (fn := Try.f9) rfl Try.func9 rfl (by kernel_rfl) ?_
  show WE _ _ _ _ _ ⟨List.replicate 47 (.val .undef), List.replicate 47 (.gone 0)⟩ _
  dsimp only [List.reduceReplicate]
  repeat' (first
    | refine WE.seq ?_
    | refine Wc.plain ?_
    | (refine WO.nil ?_; try dsimp only [PostV.seq])
    | refine Wc.eqT ?_
    | refine Wc.call (r_Sample) ?_
    | refine Wc.call (hr) ?_
    | refine Wc.call (hc) ?_
    | refine Wc.call (hc3) ?_
    | refine Wc.call (hf) ?_
    | refine Wc.call (hg) ?_
    | refine Wc.call (hg2) ?_
    | refine Wc.any ?_
    | refine Wc.shut ?_
    | (refine WE.ret ?_; try dsimp only [PostV.seq])
    | fail)
  refine Wc.ret ?_
  rfl
end Go.Vi.CYtdfhbmallnegfaa
