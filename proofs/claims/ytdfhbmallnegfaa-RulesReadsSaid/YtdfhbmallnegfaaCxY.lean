/-
  Which variables a rule names, and which it sets: the program.
-/
import Derived.Test.YtdfhbmallnegfaaCxX
namespace Go.Vi.CYtdfhbmallnegfaa
open Go.Vi Go.Proofs Go.Proofs.Ytdfhbmallnegfaa
set_option linter.unusedVariables false
set_option maxHeartbeats 8000000
set_option maxRecDepth 100000
set_option linter.unusedSimpArgs false

def foldK {α β : Type} (f : α → β → α) (z : α) (l : List β) (k : Nat) : α := (l.take k).foldl f z
theorem foldK_succ {α β : Type} {f : α → β → α} {z : α} {l : List β} {k : Nat} {b : β} (h : l[k]? = some b) : foldK f z l (k + 1) = f (foldK f z l k) b := by
  obtain ⟨hk, e⟩ := List.getElem?_eq_some_iff.1 h
  unfold foldK
  rw [List.take_add_one, h]
  simp
theorem foldK_all {α β : Type} {f : α → β → α} {z : α} {l : List β} : foldK f z l l.length = l.foldl f z := by unfold foldK; rw [List.take_length]
theorem foldl_inv {α β : Type} {f : α → β → α} {q : α → Nat} (h : ∀ a b, q (f a b) = q a) : ∀ {l : List β} {z : α}, q (l.foldl f z) = q z
  | [], _ => rfl
  | b :: l, z => by rw [List.foldl_cons, foldl_inv h, h]
theorem foldK_inv {α β : Type} {f : α → β → α} {q : α → Nat} (h : ∀ a b, q (f a b) = q a) {l : List β} {z : α} {k : Nat} : q (foldK f z l k) = q z := foldl_inv h
def addG (l : List Bool) (g : Gd) : List Bool := addC l g.test
def addX (l : List Bool) (x : St) : List Bool := addC l x.value
def addS (l : List Bool) (s : Sp) : List Bool := s.sets.list.foldl addX l
theorem addS_len {l : List Bool} {s : Sp} : (addS l s).length = l.length := foldl_inv (q := List.length) (fun _ _ => addC_len)
def putX (l : List Bool) (x : St) : List Bool := l.set x.var.toNat true
def putS' (l : List Bool) (s : Sp) : List Bool := s.sets.list.foldl putX l
theorem putS_len {l : List Bool} {s : Sp} : (putS' l s).length = l.length := foldl_inv (q := List.length) (fun _ _ => List.length_set)
def readsL (r : Rl) (n : Nat) : List Bool := r.steps.list.foldl addS (r.guards.list.foldl addG (List.replicate n false))
def writesL (r : Rl) (n : Nat) : List Bool := r.steps.list.foldl putS' (List.replicate n false)
theorem repl_map {n : Nat} : List.replicate n (VV.bool false) = (List.replicate n false).map VV.bool := by rw [List.map_replicate]

theorem r_Reads0 (t : Tb) (n : Int) (ht : t.ok) (h : right' t = false ∨ n < 0 ∨ n ≥ t.rules.list.length) (H : Hp) : Runs Try.prog pol 23 [.val (tbV t), .val (iv n)] H ([.val .nils], [], H) := by
  have hrl := ht.2.2.2.1
  unfold Sl.ok at hrl
  refine Runs.told (fn := Try.f23) (n := 73) [(0, .val (tbV t)), (1, .val (iv n))] [(0, .gone 0), (1, .gone 0)] rfl Try.func23 rfl rfl (by kernel_rfl) rfl (by repeat' constructor) (by repeat' constructor) ?_
  repeat' (first
    | intro _
    | refine Ws ?_
    | (refine Wt ?_ ?_ <;> intro _ <;> try (exfalso; omega))
    | (refine Wu ?_ ?_ <;> intro _)
    | refine Wo.callB (r_right t ht) (fun _ => ?_) (fun _ => ?_)
    | refine Wv ?_
    | refine Wz ?_
    | fail)
  all_goals first
    | rfl
    | (exfalso; rcases h with h | h | h
       · simp_all
       · omega
       · omega)
    | trace_state
theorem r_Writes0 (t : Tb) (n : Int) (ht : t.ok) (h : right' t = false ∨ n < 0 ∨ n ≥ t.rules.list.length) (H : Hp) : Runs Try.prog pol 24 [.val (tbV t), .val (iv n)] H ([.val .nils], [], H) := by
  have hrl := ht.2.2.2.1
  unfold Sl.ok at hrl
  refine Runs.told (fn := Try.f24) (n := 53) [(0, .val (tbV t)), (1, .val (iv n))] [(0, .gone 0), (1, .gone 0)] rfl Try.func24 rfl rfl (by kernel_rfl) rfl (by repeat' constructor) (by repeat' constructor) ?_
  repeat' (first
    | intro _
    | refine Ws ?_
    | (refine Wt ?_ ?_ <;> intro _ <;> try (exfalso; omega))
    | (refine Wu ?_ ?_ <;> intro _)
    | refine Wo.callB (r_right t ht) (fun _ => ?_) (fun _ => ?_)
    | refine Wv ?_
    | refine Wz ?_
    | fail)
  all_goals first
    | rfl
    | (exfalso; rcases h with h | h | h
       · simp_all
       · omega
       · omega)
    | trace_state
theorem r_Reads (t : Tb) (i : Nat) (r : Rl) (ht : t.ok) (hR : right' t = true) (hr : t.rules.list[i]? = some r) (hv : t.vars.list.length ≤ 6) (hg : ∀ g ∈ r.guards.list, (usesL g.test).length ≤ t.vars.list.length) (hx : ∀ s ∈ r.steps.list, ∀ x ∈ s.sets.list, (usesL x.value).length ≤ t.vars.list.length) (H : Hp) :
    Runs Try.prog pol 23 [.val (tbV t), .val (iv i)] H ([.val (.row (H.next + 1) 0 t.vars.list.length 1)], [], hpR H t.vars.list.length (readsL r t.vars.list.length)) := by
  have hrl := ht.2.2.2.1
  have hro := ht.2.2.2.2 r (List.mem_of_getElem? hr)
  obtain ⟨q1, q2, q3, ⟨q4, q5⟩, q6, q7⟩ := hro
  unfold Sl.ok at hrl q4 q6
  have hil : i < t.rules.list.length := (List.getElem?_eq_some_iff.1 hr).1
  have hbr := r_right t ht
  rw [hR] at hbr
  have hzl : (List.replicate t.vars.list.length false).length = t.vars.list.length := List.length_replicate
  have e0 : readsL r t.vars.list.length = foldK addS (foldK addG (List.replicate t.vars.list.length false) r.guards.list r.guards.list.length) r.steps.list r.steps.list.length := by rw [foldK_all, foldK_all]; rfl
  rw [e0]
  refine Runs.toldH (fn := Try.f23) (n := 73) [(0, .val (tbV t)), (1, .val (iv i))] [(0, .gone 0), (1, .gone 0)] rfl Try.func23 rfl rfl (by kernel_rfl) rfl (by repeat' constructor) (by repeat' constructor) ?_
  have hO : (H.put (.cells [.nils])).objs H.next = some (.cells [.nils]) := by simp only [Hp.put, if_true]
  have hne : H.next ≠ (H.put (.cells [.nils])).next := by show H.next ≠ H.next + 1; omega
  have hmd : ((H.put (.cells VV.nils.cells)).put (.row (List.map VV.bool (List.replicate ((t.vars.list.length : Nat) : Int).toNat false)) 1)).set H.next (some (.cells (putCells [.nils] 0 [.row (H.put (.cells VV.nils.cells)).next 0 (List.map VV.bool (List.replicate ((t.vars.list.length : Nat) : Int).toNat false)).length 1]))) = hpR H t.vars.list.length (List.replicate t.vars.list.length false) := by
    have := hpR_made (H := H) (es := List.map VV.bool (List.replicate ((t.vars.list.length : Nat) : Int).toNat false)) (l := List.replicate t.vars.list.length false) (by rw [Int.toNat_natCast])
    rw [hzl] at this
    exact this
  repeat' (first
    | intro _
    | refine Ws ?_
    | (refine Wt ?_ ?_ <;> intro _ <;> try (exfalso; omega))
    | (refine Wu ?_ ?_ <;> intro _)
    | refine Wo.call0 (hbr) ?_
    | refine Wo.allocH ?_
    | refine Wo.storeHo hO hne hmd ?_
    | refine Wo.closV ?_
    | refine Wv ?_
    | refine Wz ?_
    | fail)
  refine Wx.loopH (fun k => hpR H t.vars.list.length (foldK addG (List.replicate t.vars.list.length false) r.guards.list k)) [1, 2, 4, 5, 6, 10, 12, 37, 38, 48, 49, 50, 51, 52, 53, 54, 55, 56, 57, 58, 59, 60, 61, 62, 63, 64, 65, 66, 67, 68, 70, 71, 72] [0, 1, 2, 5, 10, 12, 14, 30, 69] (fun k => [(39, .val (iv (k : Nat)))]) (fun k => []) (fun k => k ≤ r.guards.list.length ∧ True) (fun k => r.guards.list.length - k) 0 ⟨Nat.zero_le _, trivial⟩ (fun k x y hG => ?_)
  obtain ⟨h1, h2⟩ := hG
  dsimp only [List.cons_append, List.nil_append]
  rcases Nat.lt_or_ge k r.guards.list.length with hk | hk
  · obtain ⟨z, hz⟩ := at_some hk
    have hzm := List.mem_of_getElem? hz
    have hadd := r_add z.test (foldK addG (List.replicate t.vars.list.length false) r.guards.list k) t.vars.list.length (q5 z hzm).2 (by rw [foldK_inv (q := List.length) (f := addG) (fun _ _ => addC_len), hzl]) (hg z hzm) H
    repeat' (first
      | intro _
      | refine Ws ?_
      | (refine Wt ?_ ?_ <;> intro _ <;> try (exfalso; omega))
      | (refine Wu ?_ ?_ <;> intro _)
      | refine Wo.callI hadd ?_
      | refine Wv ?_
      | refine Wz ?_
      | fail)
    exact RdH (k + 1) (by omega) ⟨by omega, trivial⟩ (by rw [foldK_succ hz]; rfl)
  · have hkk : k = r.guards.list.length := by omega
    subst hkk
    generalize hY : foldK addG (List.replicate t.vars.list.length false) r.guards.list r.guards.list.length = Y
    have hYl : Y.length = t.vars.list.length := by rw [← hY, foldK_inv (q := List.length) (f := addG) (fun _ _ => addC_len), hzl]
    repeat' (first
      | intro _
      | refine Ws ?_
      | (refine Wt ?_ ?_ <;> intro _ <;> try (exfalso; omega))
      | (refine Wu ?_ ?_ <;> intro _)
      | refine Wv ?_
      | refine Wz ?_
      | fail)
    refine Wx.loopH (fun j => hpR H t.vars.list.length (foldK addS Y r.steps.list j)) [4, 5, 6, 53, 54, 72] [0, 1, 2, 5, 8, 14, 30, 46] (fun j => [(55, .val (iv (j : Nat)))]) (fun j => []) (fun j => j ≤ r.steps.list.length ∧ True) (fun j => r.steps.list.length - j) 0 ⟨Nat.zero_le _, trivial⟩ (fun j x y hG => ?_)
    obtain ⟨h3, h4⟩ := hG
    dsimp only [List.cons_append, List.nil_append]
    rcases Nat.lt_or_ge j r.steps.list.length with hj | hj
    · obtain ⟨z, hz⟩ := at_some hj
      have hzm := List.mem_of_getElem? hz
      obtain ⟨⟨hz1, hz2⟩, hz3⟩ := q7 z hzm
      unfold Sl.ok at hz1
      generalize hV : foldK addS Y r.steps.list j = V
      have hVl : V.length = t.vars.list.length := by rw [← hV, foldK_inv (q := List.length) (f := addS) (fun _ _ => addS_len), hYl]
      repeat' (first
        | intro _
        | refine Ws ?_
        | (refine Wt ?_ ?_ <;> intro _ <;> try (exfalso; omega))
        | (refine Wu ?_ ?_ <;> intro _)
        | refine Wv ?_
        | refine Wz ?_
        | fail)
      refine Wx.loopH (fun m => hpR H t.vars.list.length (foldK addX V z.sets.list m)) [4, 5, 6, 10, 53, 54, 55, 56, 57, 58, 59, 60, 61, 71, 72] [0, 1, 2, 5, 8, 10, 14, 30, 46] (fun m => [(62, .val (iv (m : Nat)))]) (fun m => []) (fun m => m ≤ z.sets.list.length ∧ True) (fun m => z.sets.list.length - m) 0 ⟨Nat.zero_le _, trivial⟩ (fun m x y hG => ?_)
      obtain ⟨h5, h6⟩ := hG
      dsimp only [List.cons_append, List.nil_append]
      rcases Nat.lt_or_ge m z.sets.list.length with hm | hm
      · obtain ⟨c, hc⟩ := at_some hm
        have hcm := List.mem_of_getElem? hc
        have hadd := r_add c.value (foldK addX V z.sets.list m) t.vars.list.length (hz2 c hcm).2 (by rw [foldK_inv (q := List.length) (f := addX) (fun _ _ => addC_len), hVl]) (hx z hzm c hcm) H
        repeat' (first
          | intro _
          | refine Ws ?_
          | (refine Wt ?_ ?_ <;> intro _ <;> try (exfalso; omega))
          | (refine Wu ?_ ?_ <;> intro _)
          | refine Wo.callI hadd ?_
          | refine Wv ?_
          | refine Wz ?_
          | fail)
        exact RdH (m + 1) (by omega) ⟨by omega, trivial⟩ (by rw [foldK_succ hc]; rfl)
      · have hmm : m = z.sets.list.length := by omega
        subst hmm
        repeat' (first
          | intro _
          | refine Ws ?_
          | (refine Wt ?_ ?_ <;> intro _ <;> try (exfalso; omega))
          | (refine Wu ?_ ?_ <;> intro _)
          | refine Wv ?_
          | refine Wz ?_
          | fail)
        exact RdH (j + 1) (by omega) ⟨by omega, trivial⟩ (by rw [foldK_succ hz, hV, foldK_all]; rfl)
    · have hjj : j = r.steps.list.length := by omega
      subst hjj
      repeat' (first
        | intro _
        | refine Ws ?_
        | (refine Wt ?_ ?_ <;> intro _ <;> try (exfalso; omega))
        | (refine Wu ?_ ?_ <;> intro _)
        | refine Wo.loadHc hpR_c ?_
        | refine Wv ?_
        | refine Wz ?_
        | fail)
      all_goals first
        | rfl
        | exact Wl.retH rfl rfl
        | trace_state
theorem r_Writes (t : Tb) (i : Nat) (r : Rl) (ht : t.ok) (hR : right' t = true) (hr : t.rules.list[i]? = some r) (hv : t.vars.list.length ≤ 6) (hx : ∀ s ∈ r.steps.list, ∀ x ∈ s.sets.list, 0 ≤ x.var ∧ x.var < t.vars.list.length) (H : Hp) :
    Runs Try.prog pol 24 [.val (tbV t), .val (iv i)] H ([.val (.lst ((writesL r t.vars.list.length).map VV.bool))], [], H) := by
  have hrl := ht.2.2.2.1
  have hro := ht.2.2.2.2 r (List.mem_of_getElem? hr)
  obtain ⟨q1, q2, q3, ⟨q4, q5⟩, q6, q7⟩ := hro
  unfold Sl.ok at hrl q4 q6
  have hil : i < t.rules.list.length := (List.getElem?_eq_some_iff.1 hr).1
  have hbr := r_right t ht
  rw [hR] at hbr
  have e0 : writesL r t.vars.list.length = foldK putS' (List.replicate t.vars.list.length false) r.steps.list r.steps.list.length := by rw [foldK_all]; rfl
  rw [e0]
  refine Runs.told (fn := Try.f24) (n := 53) [(0, .val (tbV t)), (1, .val (iv i))] [(0, .gone 0), (1, .gone 0)] rfl Try.func24 rfl rfl (by kernel_rfl) rfl (by repeat' constructor) (by repeat' constructor) ?_
  repeat' (first
    | intro _
    | refine Ws ?_
    | (refine Wt ?_ ?_ <;> intro _ <;> try (exfalso; omega))
    | (refine Wu ?_ ?_ <;> intro _)
    | refine Wo.call0 (hbr) ?_
    | refine Wv ?_
    | refine Wz ?_
    | fail)
  rename_i gA gB
  refine Wx.loop [4, 5, 33, 34, 52] [0, 1, 2, 11] (fun (k, L) => [(35, .val (iv (k : Nat)))]) (fun (k, L) => [(27, .row gB (L.map VV.bool) 1 false)]) (fun (k, L) => k ≤ r.steps.list.length ∧ L = foldK putS' (List.replicate t.vars.list.length false) r.steps.list k) (fun (k, L) => r.steps.list.length - k) (0, List.replicate ((t.vars.list.length : Nat) : Int).toNat false) ⟨Nat.zero_le _, by rw [Int.toNat_natCast]; rfl⟩ (fun a x y hG => ?_)
  obtain ⟨k, L⟩ := a
  obtain ⟨h1, h2⟩ := hG
  dsimp only [List.cons_append, List.nil_append]
  have hLl : L.length = t.vars.list.length := by rw [h2, foldK_inv (q := List.length) (f := putS') (fun _ _ => putS_len), List.length_replicate]
  rcases Nat.lt_or_ge k r.steps.list.length with hk | hk
  · obtain ⟨z, hz⟩ := at_some hk
    have hzm := List.mem_of_getElem? hz
    obtain ⟨⟨hz1, hz2⟩, hz3⟩ := q7 z hzm
    unfold Sl.ok at hz1
    repeat' (first
      | intro _
      | refine Ws ?_
      | (refine Wt ?_ ?_ <;> intro _ <;> try (exfalso; omega))
      | (refine Wu ?_ ?_ <;> intro _)
      | refine Wv ?_
      | refine Wz ?_
      | fail)
    refine Wx.loop [4, 5, 7, 33, 34, 35, 36, 37, 38, 39, 40, 41, 51, 52] [0, 1, 2, 7, 11] (fun (m, M) => [(42, .val (iv (m : Nat)))]) (fun (m, M) => [(27, .row gB (M.map VV.bool) 1 false)]) (fun (m, M) => m ≤ z.sets.list.length ∧ M = foldK putX L z.sets.list m) (fun (m, M) => z.sets.list.length - m) (0, L) ⟨Nat.zero_le _, rfl⟩ (fun a x y hG => ?_)
    obtain ⟨m, M⟩ := a
    obtain ⟨h3, h4⟩ := hG
    dsimp only [List.cons_append, List.nil_append]
    have hMl : M.length = t.vars.list.length := by rw [h4, foldK_inv (q := List.length) (f := putX) (fun _ _ => List.length_set), hLl]
    rcases Nat.lt_or_ge m z.sets.list.length with hm | hm
    · obtain ⟨c, hc⟩ := at_some hm
      have hcx := hx z hzm c (List.mem_of_getElem? hc)
      repeat' (first
        | intro _
        | refine Ws ?_
        | (refine Wt ?_ ?_ <;> intro _ <;> try (exfalso; omega))
        | (refine Wu ?_ ?_ <;> intro _)
        | refine Wv ?_
        | refine Wz ?_
        | fail)
      exact Rd (m + 1, M.set (0 + c.var.toNat) true) (by dsimp only; omega) ⟨by dsimp only; omega, by dsimp only; rw [foldK_succ hc, ← h4, Nat.zero_add]; rfl⟩
    · have hmm : m = z.sets.list.length := by omega
      subst hmm
      repeat' (first
        | intro _
        | refine Ws ?_
        | (refine Wt ?_ ?_ <;> intro _ <;> try (exfalso; omega))
        | (refine Wu ?_ ?_ <;> intro _)
        | refine Wv ?_
        | refine Wz ?_
        | fail)
      exact Rd (k + 1, M) (by dsimp only; omega) ⟨by dsimp only; omega, by dsimp only; rw [foldK_succ hz, ← h2, h4, foldK_all]; rfl⟩
  · have hkk : k = r.steps.list.length := by omega
    subst hkk
    repeat' (first
      | intro _
      | refine Ws ?_
      | (refine Wt ?_ ?_ <;> intro _ <;> try (exfalso; omega))
      | (refine Wu ?_ ?_ <;> intro _)
      | refine Wv ?_
      | refine Wz ?_
      | fail)
    refine Wl.retF ?_
    rw [h2]; rfl
end Go.Vi.CYtdfhbmallnegfaa
