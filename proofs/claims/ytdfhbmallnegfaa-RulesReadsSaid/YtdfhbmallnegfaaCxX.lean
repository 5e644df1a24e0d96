/-
  Which variables a rule names: the program; the closure writes a row among the objects.
-/
import Derived.Test.YtdfhbmallnegfaaCxVb
import Derived.Test.YtdfhbmallnegfaaCxW
namespace Go.Vi.CYtdfhbmallnegfaa
open Go.Vi Go.Proofs Go.Proofs.Ytdfhbmallnegfaa
set_option linter.unusedVariables false
set_option maxHeartbeats 8000000
set_option maxRecDepth 100000
set_option linter.unusedSimpArgs false

/-- two objects behind H: a variable that holds a row, and the row -/
def hpR (H : Hp) (n : Nat) (l : List Bool) : Hp := ⟨H.next + 2, fun i => if i = H.next then some (.cells [.row (H.next + 1) 0 n 1]) else if i = H.next + 1 then some (.row (l.map VV.bool) 1) else H.objs i⟩
theorem hpR_c {H : Hp} {n : Nat} {l : List Bool} : (hpR H n l).objs H.next = some (.cells [.row (H.next + 1) 0 n 1]) := by simp only [hpR, if_true]
theorem hpR_r {H : Hp} {n : Nat} {l : List Bool} : (hpR H n l).objs (H.next + 1) = some (.row (l.map VV.bool) 1) := by
  have : ¬ (H.next + 1 = H.next) := by omega
  simp only [hpR, if_true, if_neg this]
theorem hpR_set {H : Hp} {n : Nat} {l l' : List Bool} : (hpR H n l).set (H.next + 1) (some (.row (l'.map VV.bool) 1)) = hpR H n l' := by
  unfold hpR Hp.set
  congr 1
  funext i
  by_cases h1 : i = H.next + 1
  · have h2 : ¬ (i = H.next) := by omega
    simp only [h1, if_true]
    rw [if_neg (by omega)]
  · simp only [if_neg h1]
theorem hpR_made {H : Hp} {es : List VV} {l : List Bool} (h : es = l.map VV.bool) : ((H.put (.cells [.nils])).put (.row es 1)).set H.next (some (.cells (putCells [.nils] 0 [.row (H.put (.cells [.nils])).next 0 es.length 1]))) = hpR H l.length l := by
  subst h
  unfold hpR Hp.set Hp.put
  congr 1
  funext i
  by_cases h1 : i = H.next
  · simp only [h1, if_true, putCells, List.set, List.length_map]
  · simp only [if_neg h1]

def orK (l U : List Bool) : Nat → List Bool
  | 0 => l
  | k + 1 => (orK l U k).set k ((orK l U k).getD k false || U.getD k false)
theorem orK_len {l U : List Bool} : ∀ {k : Nat}, (orK l U k).length = l.length
  | 0 => rfl
  | k + 1 => by rw [orK, List.length_set, orK_len]
def usesL (s : Sl Ins) : List Bool := Sl.list (usesAt 2 6 s.list s.list.length)
def addC (l : List Bool) (s : Sl Ins) : List Bool := orK l (usesL s) (usesL s).length
theorem addC_len {l : List Bool} {s : Sl Ins} : (addC l s).length = l.length := orK_len
theorem uses_len6 {op m : Int} {l : List Ins} (hm : m ≤ 6) : ∀ {k : Nat}, (usesAt op m l k).list.length ≤ 6
  | 0 => by simp [usesAt, Sl.list]
  | k + 1 => by
    have ih := uses_len6 (op := op) (l := l) hm (k := k)
    unfold usesAt
    split
    · split
      · unfold putU
        split
        · exact ih
        · show (putL _ _).length ≤ 6
          rw [putL_len]; omega
      · exact ih
    · exact ih
theorem orK_at {l U : List Bool} {k : Nat} {a b : Bool} (h1 : (orK l U k)[k]? = some a) (h2 : U[k]? = some b) : orK l U (k + 1) = (orK l U k).set k (a || b) := by
  rw [orK, List.getD_eq_getElem?_getD, List.getD_eq_getElem?_getD, h1, h2]; rfl

theorem r_add (s : Sl Ins) (l : List Bool) (n : Nat) (hs : codeOk s) (hn : n = l.length) (hU : (usesL s).length ≤ n) (H : Hp) : Runs Try.prog pol 36 [.val (slV insV s), .val (.ptr H.next 0)] (hpR H n l) ([], [], hpR H n (addC l s)) := by
  have h6 : (usesL s).length ≤ 6 := uses_len6 (by decide)
  refine Runs.toldH (fn := Try.f36) (n := 30) [(0, .val (slV insV s)), (1, .val (.ptr H.next 0))] [(0, .gone 0), (1, .gone 0)] rfl Try.func36 rfl rfl (by kernel_rfl) rfl (by repeat' constructor) (by repeat' constructor) ?_
  repeat' (first
    | intro _
    | refine Ws ?_
    | (refine Wt ?_ ?_ <;> intro _ <;> try (exfalso; omega))
    | (refine Wu ?_ ?_ <;> intro _)
    | refine Wo.call0 (r_Uses s hs) ?_
    | refine Wv ?_
    | refine Wz ?_
    | fail)
  generalize hV : usesAt 2 6 s.list s.list.length = W
  have hW : usesL s = W.list := by unfold usesL; rw [hV]
  rw [hW] at hU h6
  refine Wx.loopH (fun k => hpR H n (orK l W.list k)) [1, 12, 13] [0, 1, 9] (fun k => [(14, .val (iv (k : Nat)))]) (fun k => []) (fun k => k ≤ W.list.length ∧ True) (fun k => W.list.length - k) 0 ⟨Nat.zero_le _, trivial⟩ (fun k x y hG => ?_)
  obtain ⟨h1, h2⟩ := hG
  dsimp only [List.cons_append, List.nil_append]
  rcases Nat.lt_or_ge k W.list.length with hk | hk
  · obtain ⟨b, hb⟩ := at_some hk
    obtain ⟨a, ha⟩ := at_some (show k < (orK l W.list k).length by rw [orK_len]; omega)
    have hnx := orK_at ha hb
    have hkl : ((k : Nat) : Int).toNat < (orK l W.list k).length := by rw [orK_len]; omega
    cases a
    · repeat' (first
        | intro _
        | refine Ws ?_
        | (refine Wt ?_ ?_ <;> intro _ <;> try (exfalso; omega))
        | (refine Wu ?_ ?_ <;> intro _)
        | refine Wo.loadHc hpR_c ?_
        | refine Wo.idxH ?_
        | refine Wo.loadHr (enc := VV.bool) hpR_r ha ?_
        | refine Wo.storeHr (enc := VV.bool) hpR_r hkl hpR_set ?_
        | refine Wv ?_
        | refine Wz ?_
        | fail)
      exact RdH (k + 1) (by omega) ⟨by omega, trivial⟩ (by rw [hnx]; rfl)
    · repeat' (first
        | intro _
        | refine Ws ?_
        | (refine Wt ?_ ?_ <;> intro _ <;> try (exfalso; omega))
        | (refine Wu ?_ ?_ <;> intro _)
        | refine Wo.loadHc hpR_c ?_
        | refine Wo.idxH ?_
        | refine Wo.loadHr (enc := VV.bool) hpR_r ha ?_
        | refine Wo.storeHr (enc := VV.bool) hpR_r hkl hpR_set ?_
        | refine Wv ?_
        | refine Wz ?_
        | fail)
      exact RdH (k + 1) (by omega) ⟨by omega, trivial⟩ (by rw [hnx]; rfl)
  · have hkk : k = W.list.length := by omega
    subst hkk
    have e : addC l s = orK l W.list W.list.length := by unfold addC; rw [hW]
    rw [e]
    repeat' (first
      | intro _
      | refine Ws ?_
      | (refine Wt ?_ ?_ <;> intro _ <;> try (exfalso; omega))
      | (refine Wu ?_ ?_ <;> intro _)
      | refine Wv ?_
      | refine Wz ?_
      | fail)
    rfl
end Go.Vi.CYtdfhbmallnegfaa
