/-
  What must come at any rate.
-/
import Derived.Test.YthalmafpobmdoaaCyP
import Derived.Test.YthalmafpobmdoaaCyKb
import Derived.Test.YthalmafpobmdoaaCxI
namespace Go.Vi.CYthalmafpobmdoaa
open Go.Vi Go.Proofs Go.Proofs.Ythalmafpobmdoaa
set_option linter.unusedVariables false
set_option maxHeartbeats 8000000
set_option maxRecDepth 100000
set_option linter.unusedSimpArgs false

def w64B (n : Int) : Bool := decide (-9223372036854775808 ≤ n) && decide (n ≤ 9223372036854775807)
def slB {α : Type} (f : α → Bool) (s : Sl α) : Bool := decide (s.list.length ≤ 9223372036854775807) && s.list.all f
theorem w64B_ok {n : Int} (h : w64B n = true) : w64 n := by simpa [w64B, w64] using h
theorem slB_ok {α : Type} {f : α → Bool} {p : α → Prop} {s : Sl α} (hf : ∀ a, f a = true → p a) (h : slB f s = true) : Sl.ok s ∧ ∀ y ∈ s.list, p y := by
  simp only [slB, Bool.and_eq_true, decide_eq_true_eq, List.all_eq_true] at h
  exact ⟨h.1, fun y hy => hf y (h.2 y hy)⟩
def insB (x : Ins) : Bool := w64B x.op && w64B x.n
def gdB (x : Gd) : Bool := w64B x.code && slB insB x.test
def stB (x : St) : Bool := w64B x.var && slB insB x.value
def spB (x : Sp) : Bool := slB stB x.sets && w64B x.to
def strB (x : ByteArray) : Bool := decide (x.size ≤ 140737488351232)
def rlB (x : Rl) : Bool := strB x.name && (w64B x.args && (slB w64B x.fr && (slB gdB x.guards && slB spB x.steps)))
def tbB (x : Tb) : Bool := slB strB x.states && (slB strB x.vars && (slB w64B x.start && slB rlB x.rules))
theorem tbB_ok {x : Tb} (h : tbB x = true) : x.ok := by
  have hi : ∀ a, insB a = true → a.ok := fun a h => by simp only [insB, Bool.and_eq_true] at h; exact ⟨w64B_ok h.1, w64B_ok h.2⟩
  have hg : ∀ a, gdB a = true → a.ok := fun a h => by simp only [gdB, Bool.and_eq_true] at h; exact ⟨w64B_ok h.1, slB_ok hi h.2⟩
  have ht : ∀ a, stB a = true → a.ok := fun a h => by simp only [stB, Bool.and_eq_true] at h; exact ⟨w64B_ok h.1, slB_ok hi h.2⟩
  have hp : ∀ a, spB a = true → a.ok := fun a h => by simp only [spB, Bool.and_eq_true] at h; exact ⟨slB_ok ht h.1, w64B_ok h.2⟩
  have hs : ∀ a, strB a = true → a.size ≤ 140737488351232 := fun a h => of_decide_eq_true h
  have hr : ∀ a, rlB a = true → a.ok := fun a h => by
    simp only [rlB, Bool.and_eq_true] at h
    exact ⟨hs _ h.1, w64B_ok h.2.1, slB_ok (fun _ => w64B_ok) h.2.2.1, slB_ok hg h.2.2.2.1, slB_ok hp h.2.2.2.2⟩
  simp only [tbB, Bool.and_eq_true] at h
  exact ⟨slB_ok hs h.1, slB_ok hs h.2.1, slB_ok (fun _ => w64B_ok) h.2.2.1, slB_ok hr h.2.2.2⟩
def cm0 (n : Int) : Cm := ⟨0, 0, ⟨#[]⟩, 0, some [n], -1⟩
def aw0 : Stt := ⟨0, 0, some [0, 0]⟩
theorem aw_right : rightB (sTb [1]) = true := by kernel_rfl
theorem aw_new : newS (sTb [1]) = aw0 := by kernel_rfl
theorem aw1 : decS (sTb [1]) aw0 (cm0 5) = (some [⟨1, some [5, 1]⟩], 0) := by kernel_rfl
theorem aw2 : decS (sTb [1]) aw0 (cm0 0) = (none, 16) := by kernel_rfl
theorem aw3 : mayS (sTb [1]) aw0 = true := by kernel_rfl
theorem r_awake (H : Hp) : Runs Try.prog pol 10 [] H ([.val (.bool true)], [], H) := by
  have hk : (sTb [1]).ok := tbB_ok (by kernel_rfl)
  have hw : ∀ n : Int, 0 ≤ n ∧ n ≤ 5 → w64 n := fun n h => by unfold w64; omega
  have hs0 : aw0.ok := ⟨hw _ (by decide), hw _ (by decide), by simp [Sl.ok, Sl.list, aw0], fun y hy => by simp [Sl.list, aw0] at hy; subst hy; exact hw _ (by decide)⟩
  have hc0 : ∀ n : Int, 0 ≤ n ∧ n ≤ 5 → (cm0 n).ok := fun n hn => ⟨hw 0 (by decide), hw 0 (by decide), by show (0 : Nat) ≤ _; omega, hw 0 (by decide), ⟨by simp [Sl.ok, Sl.list, cm0], fun y hy => by simp [Sl.list, cm0] at hy; subst hy; exact hw _ hn⟩, by show w64 (-1); unfold w64; decide⟩
  have hn := r_New (sTb [1]) hk (fun _ => by decide)
  rw [aw_new] at hn
  have hd1 := r_Decide (sTb [1]) aw0 (cm0 5) hk hs0 (hc0 5 (by decide))
  rw [aw1] at hd1
  have hd2 := r_Decide (sTb [1]) aw0 (cm0 0) hk hs0 (hc0 0 (by decide))
  rw [aw2] at hd2
  have hin := r_IntsD (some [5, 1]) (some [5, 1]) (by simp [Sl.ok, Sl.list]) (by simp [Sl.ok, Sl.list])
  rw [show decide (Sl.list (some [(5 : Int), 1]) = Sl.list (some [(5 : Int), 1])) = true from rfl] at hin
  have hfo := r_Fold aw0 (some [⟨1, some [5, 1]⟩]) hs0 (by simp [Sl.fit, Sl.list, aw0]) (by simp [Sl.ok, Sl.list]) (fun z hz => by
    simp [Sl.list] at hz; subst hz
    exact ⟨hw _ (by decide), by simp [Sl.ok, Sl.list], by simp [Sl.fit, Sl.list], fun y hy => by simp [Sl.list] at hy; rcases hy with rfl | rfl <;> exact hw _ (by decide)⟩)
  rw [show foldS aw0 (Sl.list (some [(⟨1, some [5, 1]⟩ : Ev)])) = ⟨1, 1, some [5, 1]⟩ from rfl] at hfo
  have hri := r_Right (sTb [1]) aw0 hk hs0
  rw [aw_right, aw3] at hri
  refine Runs.laid (fn := Try.f10) rfl Try.func10 rfl (by kernel_rfl) ?_
  show WE _ _ _ _ _ ⟨List.replicate 64 (.val .undef), List.replicate 64 (.gone 0)⟩ _
  dsimp only [List.reduceReplicate]
  repeat' (first
    | refine WE.seq ?_
    | refine Wc.plain ?_
    | (refine WO.nil ?_; try dsimp only [PostV.seq])
    | refine Wc.eqT ?_
    | refine Wc.call (r_Sample) ?_
    | refine Wc.call (hn) ?_
    | refine Wc.call (hd1) ?_
    | refine Wc.call (hd2) ?_
    | refine Wc.call (hin) ?_
    | refine Wc.call (hfo) ?_
    | refine Wc.call (hri) ?_
    | refine Wc.any ?_
    | refine Wc.shut ?_
    | (refine WE.ret ?_; try dsimp only [PostV.seq])
    | fail)
  refine Wc.ret ?_
  rfl
end Go.Vi.CYthalmafpobmdoaa
