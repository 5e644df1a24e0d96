/-
  The sample.
-/
import Derived.Test.YtdfhbmallnegfaaCxG
import Derived.Test.YtdfhbmallnegfaaV3
namespace Go.Vi.CYtdfhbmallnegfaa
open Go.Vi Go.Proofs Go.Proofs.Ytdfhbmallnegfaa
set_option linter.unusedVariables false
set_option maxHeartbeats 8000000
set_option maxRecDepth 100000
set_option linter.unusedSimpArgs false

def iV (n : Int) : Ins := ⟨2, n⟩
def iA (n : Int) : Ins := ⟨3, n⟩
def iC (n : Int) : Ins := ⟨1, n⟩
def iO (n : Int) : Ins := ⟨n, 0⟩
def sDraft : ByteArray := ⟨#[100, 114, 97, 102, 116]⟩
def sOpen : ByteArray := ⟨#[111, 112, 101, 110]⟩
def sDone : ByteArray := ⟨#[100, 111, 110, 101]⟩
def sTotal : ByteArray := ⟨#[116, 111, 116, 97, 108]⟩
def sMany : ByteArray := ⟨#[109, 97, 110, 121]⟩
def sAdd : ByteArray := ⟨#[97, 100, 100]⟩
def sDouble : ByteArray := ⟨#[100, 111, 117, 98, 108, 101]⟩
def sClose : ByteArray := ⟨#[99, 108, 111, 115, 101]⟩
def sAgain : ByteArray := ⟨#[97, 103, 97, 105, 110]⟩
def sRules (fr : List Int) : List Rl := [
  ⟨sAdd, 1, some [0, 1], some [⟨16, some [iC 0, iA 0, iO 11]⟩, ⟨17, some [iV 1, iC 5, iO 11]⟩], some [⟨some [⟨0, some [iV 0, iA 0, iO 6]⟩, ⟨1, some [iV 1, iC 1, iO 6]⟩], 1⟩]⟩,
  ⟨sDouble, 0, some fr, none, some [⟨some [⟨0, some [iV 0, iC 2, iO 8]⟩], -1⟩, ⟨some [⟨1, some [iV 0, iC 9, iO 9]⟩], -1⟩]⟩,
  ⟨sClose, 0, some [1], some [⟨20, some [iC 3, iV 0, iO 12]⟩], some [⟨none, 2⟩]⟩,
  ⟨sAgain, 2, none, none, some [⟨some [⟨0, some [iA 0, iA 1, iO 7]⟩], 0⟩]⟩]
def sTb (fr : List Int) : Tb := ⟨some [sDraft, sOpen, sDone], some [sTotal, sMany], some [0, 0], some (sRules fr)⟩
def sampleR : RV := .st [.own [.str sDraft, .str sOpen, .str sDone] 1, .own [.str sTotal, .str sMany] 1, .own [iv 0, iv 0] 1, .own ((sRules [1]).map rlV) 5]
theorem r_c (n : Int) (H : Hp) : Runs Try.prog pol 39 [.val (iv n)] H ([.val (.agg [iv 1, iv n])], [], H) := by
  refine Runs.told (fn := Try.f39) (n := 5) [(0, .val (iv n))] [(0, .gone 0)] rfl Try.func39 rfl rfl (by kernel_rfl) rfl (by repeat' constructor) (by repeat' constructor) ?_
  repeat' (first
    | intro _
    | refine Ws ?_
    | (refine Wt ?_ ?_ <;> intro _ <;> try (exfalso; omega))
    | (refine Wu ?_ ?_ <;> intro _)
    | refine Wv ?_
    | refine Wz ?_
    | fail)
  rfl
theorem r_a (n : Int) (H : Hp) : Runs Try.prog pol 40 [.val (iv n)] H ([.val (.agg [iv 3, iv n])], [], H) := by
  refine Runs.told (fn := Try.f40) (n := 5) [(0, .val (iv n))] [(0, .gone 0)] rfl Try.func40 rfl rfl (by kernel_rfl) rfl (by repeat' constructor) (by repeat' constructor) ?_
  repeat' (first
    | intro _
    | refine Ws ?_
    | (refine Wt ?_ ?_ <;> intro _ <;> try (exfalso; omega))
    | (refine Wu ?_ ?_ <;> intro _)
    | refine Wv ?_
    | refine Wz ?_
    | fail)
  rfl
theorem r_v (n : Int) (H : Hp) : Runs Try.prog pol 42 [.val (iv n)] H ([.val (.agg [iv 2, iv n])], [], H) := by
  refine Runs.told (fn := Try.f42) (n := 5) [(0, .val (iv n))] [(0, .gone 0)] rfl Try.func42 rfl rfl (by kernel_rfl) rfl (by repeat' constructor) (by repeat' constructor) ?_
  repeat' (first
    | intro _
    | refine Ws ?_
    | (refine Wt ?_ ?_ <;> intro _ <;> try (exfalso; omega))
    | (refine Wu ?_ ?_ <;> intro _)
    | refine Wv ?_
    | refine Wz ?_
    | fail)
  rfl
theorem r_o (n : Int) (H : Hp) : Runs Try.prog pol 41 [.val (iv n)] H ([.val (.agg [iv n, iv 0])], [], H) := by
  refine Runs.told (fn := Try.f41) (n := 5) [(0, .val (iv n))] [(0, .gone 0)] rfl Try.func41 rfl rfl (by kernel_rfl) rfl (by repeat' constructor) (by repeat' constructor) ?_
  repeat' (first
    | intro _
    | refine Ws ?_
    | (refine Wt ?_ ?_ <;> intro _ <;> try (exfalso; omega))
    | (refine Wu ?_ ?_ <;> intro _)
    | refine Wv ?_
    | refine Wz ?_
    | fail)
  rfl
theorem r_Sample (H : Hp) : Runs Try.prog pol 27 [] H ([sampleR], [], H) := by
  refine Runs.laid (fn := Try.f27) rfl Try.func27 rfl (by kernel_rfl) ?_
  show WE _ _ _ _ _ ⟨List.replicate 68 (.val .undef), List.replicate 68 (.gone 0)⟩ _
  dsimp only [List.reduceReplicate]
  repeat' (first
    | refine WE.seq ?_
    | refine Wc.plain ?_
    | (refine WO.nil ?_; try dsimp only [PostV.seq])
    | refine Wc.eqT ?_
    | refine Wc.call (r_c _) ?_
    | refine Wc.call (r_a _) ?_
    | refine Wc.call (r_v _) ?_
    | refine Wc.call (r_o _) ?_
    | refine Wc.any ?_
    | refine Wc.shut ?_
    | (refine WE.ret ?_; try dsimp only [PostV.seq])
    | fail)
  refine Wc.ret ?_
  rfl
end Go.Vi.CYtdfhbmallnegfaa
