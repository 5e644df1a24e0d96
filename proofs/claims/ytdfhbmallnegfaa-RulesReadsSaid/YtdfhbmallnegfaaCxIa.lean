/-
  The sample: what must come at any rate.
-/
import Derived.Test.YtdfhbmallnegfaaCxH
import Derived.Test.YtdfhbmallnegfaaCxI
namespace Go.Vi.CYtdfhbmallnegfaa
open Go.Vi Go.Proofs Go.Proofs.Ytdfhbmallnegfaa
set_option linter.unusedVariables false
set_option maxHeartbeats 8000000
set_option maxRecDepth 100000
set_option linter.unusedSimpArgs false

theorem chk1 : check' (sTb [1]) = ⟨0, 0, 0, 0⟩ := by kernel_rfl
theorem chk3 : check' (sTb [3]) = ⟨3, 1, 7, 0⟩ := by kernel_rfl
def w64B (n : Int) : Bool := decide (-9223372036854775808 ≤ n) && decide (n ≤ 9223372036854775807)
def slB {α : Type} (f : α → Bool) (s : Sl α) : Bool := decide (s.list.length ≤ 9223372036854775807) && s.list.all f
theorem w64B_ok {n : Int} (h : w64B n = true) : w64 n := by simpa [w64B, w64] using h
theorem slB_ok {α : Type} {f : α → Bool} {p : α → Prop} {s : Sl α} (hf : ∀ a, f a = true → p a) (h : slB f s = true) : Sl.ok s ∧ ∀ y ∈ s.list, p y := by
  simp only [slB, Bool.and_eq_true, decide_eq_true_eq, List.all_eq_true] at h
  exact ⟨h.1, fun y hy => hf y (h.2 y hy)⟩
def insB (x : Ins) : Bool := w64B x.op && w64B x.n
def gdB (x : Gd) : Bool := w64B x.code && slB insB x.test
def stB (x : St) : Bool := w64B x.var && slB insB x.value
def spB (x : Sp) : Bool := slB stB x.sets && w64B x.to
def strB (x : ByteArray) : Bool := decide (x.size ≤ 140737488351232)
def rlB (x : Rl) : Bool := strB x.name && (w64B x.args && (slB w64B x.fr && (slB gdB x.guards && slB spB x.steps)))
def tbB (x : Tb) : Bool := slB strB x.states && (slB strB x.vars && (slB w64B x.start && slB rlB x.rules))
theorem tbB_ok {x : Tb} (h : tbB x = true) : x.ok := by
  have hi : ∀ a, insB a = true → a.ok := fun a h => by simp only [insB, Bool.and_eq_true] at h; exact ⟨w64B_ok h.1, w64B_ok h.2⟩
  have hg : ∀ a, gdB a = true → a.ok := fun a h => by simp only [gdB, Bool.and_eq_true] at h; exact ⟨w64B_ok h.1, slB_ok hi h.2⟩
  have ht : ∀ a, stB a = true → a.ok := fun a h => by simp only [stB, Bool.and_eq_true] at h; exact ⟨w64B_ok h.1, slB_ok hi h.2⟩
  have hp : ∀ a, spB a = true → a.ok := fun a h => by simp only [spB, Bool.and_eq_true] at h; exact ⟨slB_ok ht h.1, w64B_ok h.2⟩
  have hs : ∀ a, strB a = true → a.size ≤ 140737488351232 := fun a h => of_decide_eq_true h
  have hr : ∀ a, rlB a = true → a.ok := fun a h => by
    simp only [rlB, Bool.and_eq_true] at h
    exact ⟨hs _ h.1, w64B_ok h.2.1, slB_ok (fun _ => w64B_ok) h.2.2.1, slB_ok hg h.2.2.2.1, slB_ok hp h.2.2.2.2⟩
  simp only [tbB, Bool.and_eq_true] at h
  exact ⟨slB_ok hs h.1, slB_ok hs h.2.1, slB_ok (fun _ => w64B_ok) h.2.2.1, slB_ok hr h.2.2.2⟩
theorem rt1 : right' (sTb [1]) = true := by unfold right'; rw [chk1]; rfl
theorem fnd : find' (sRules [1]) sClose = 2 := by kernel_rfl
theorem for1 : for' (sTb [1]) 3 2 = true := by kernel_rfl
theorem for2 : for' (sTb [1]) 0 2 = false := by kernel_rfl
theorem rch2 : (reach' (sTb [1])) = [true, true, true] := by
  have h0 : Rch (sTb [1]) 0 := .zero
  have h1 : Rch (sTb [1]) 1 := .step (r := (sRules [1])[0]) (n := 0) h0 (by kernel_rfl) (by kernel_rfl)
  have h2 : Rch (sTb [1]) 2 := .step (r := (sRules [1])[2]) (n := 2) h1 (by kernel_rfl) (by kernel_rfl)
  have e : reach' (sTb [1]) = [0, 1, 2].map fun a : Nat => @decide (Rch (sTb [1]) (a : Int)) (Classical.propDecidable _) := rfl
  rw [e]
  simp only [List.map_cons, List.map_nil]
  have h0' : Rch (sTb [1]) ((0 : Nat) : Int) := h0
  have h1' : Rch (sTb [1]) ((1 : Nat) : Int) := h1
  have h2' : Rch (sTb [1]) ((2 : Nat) : Int) := h2
  rw [@decide_eq_true _ (Classical.propDecidable _) h0', @decide_eq_true _ (Classical.propDecidable _) h1', @decide_eq_true _ (Classical.propDecidable _) h2']
theorem r_awake (H : Hp) : Runs Try.prog pol 9 [] H ([.val (.bool true)], [], H) := by
  have hk : (sTb [1]).ok := tbB_ok (by kernel_rfl)
  have hk3 : (sTb [3]).ok := tbB_ok (by kernel_rfl)
  have hr := r_Reach (sTb [1]) hk rt1
  rw [rch2] at hr
  have hc := r_Check (sTb [1]) hk
  rw [chk1] at hc
  have hc3 := r_Check (sTb [3]) hk3
  rw [chk3] at hc3
  have hf := r_Find (sTb [1]) sClose hk
  rw [show (sTb [1]).rules.list = sRules [1] from rfl, fnd] at hf
  have hg := r_For (sTb [1]) 3 2 hk
  rw [for1] at hg
  have hg2 := r_For (sTb [1]) 0 2 hk
  rw [for2] at hg2
  refine Runs.laid (fn := Try.f9) rfl Try.func9 rfl (by kernel_rfl) ?_
  show WE _ _ _ _ _ ⟨List.replicate 47 (.val .undef), List.replicate 47 (.gone 0)⟩ _
  dsimp only [List.reduceReplicate]
  repeat' (first
    | refine WE.seq ?_
    | refine Wc.plain ?_
    | (refine WO.nil ?_; try dsimp only [PostV.seq])
    | refine Wc.eqT ?_
    | refine Wc.call (r_Sample) ?_
    | refine Wc.call (hr) ?_
    | refine Wc.call (hc) ?_
    | refine Wc.call (hc3) ?_
    | refine Wc.call (hf) ?_
    | refine Wc.call (hg) ?_
    | refine Wc.call (hg2) ?_
    | refine Wc.any ?_
    | refine Wc.shut ?_
    | (refine WE.ret ?_; try dsimp only [PostV.seq])
    | fail)
  refine Wc.ret ?_
  rfl
end Go.Vi.CYtdfhbmallnegfaa
