/-
  Events: side by side; what they make of states.
-/
import Derived.Test.YthalmafpobmdoaaCyJ
namespace Go.Vi.CYthalmafpobmdoaa
open Go.Vi Go.Proofs Go.Proofs.Ythalmafpobmdoaa
set_option linter.unusedVariables false
set_option maxHeartbeats 8000000
set_option maxRecDepth 100000
set_option linter.unusedSimpArgs false

structure Ev where
  at' : Int
  vars : Sl Int
abbrev evV (e : Ev) : VV := .agg [iv e.at', slV iv e.vars]
/-- a row of numbers that memory bears -/
def Sl.fit (s : Sl Int) : Prop := s.list.length * 8 ≤ 140737488355328
def Ev.ok (e : Ev) : Prop := w64 e.at' ∧ Sl.ok e.vars ∧ Sl.fit e.vars ∧ ∀ y ∈ e.vars.list, w64 y
def evBad (a b : List Ev) (i : Nat) : Option Unit := match a[i]?, b[i]? with
  | some x, some y => if x.at' = y.at' ∧ x.vars.list = y.vars.list then none else some ()
  | _, _ => none
def eventsS (a b : List Ev) : Bool := decide (a.length = b.length) && (scan (evBad a b) a.length).isNone
theorem r_Events (p q : Sl Ev) (hp : Sl.ok p ∧ ∀ z ∈ p.list, Sl.ok z.vars) (hq : Sl.ok q ∧ ∀ z ∈ q.list, Sl.ok z.vars) (H : Hp) : Runs Try.prog pol 12 [.val (slV evV p), .val (slV evV q)] H ([.val (.bool (eventsS p.list q.list))], [], H) := by
  have hal := hp.1
  have hbl := hq.1
  unfold Sl.ok at hal hbl
  refine Runs.told (fn := Try.f12) (n := 42) [(0, .val (slV evV p)), (1, .val (slV evV q))] [(0, .gone 0), (1, .gone 0)] rfl Try.func12 rfl rfl (by kernel_rfl) rfl (by repeat' constructor) (by repeat' constructor) ?_
  repeat' (first
    | intro _
    | refine Ws ?_
    | (refine Wt ?_ ?_ <;> intro _ <;> try (exfalso; omega))
    | (refine Wu ?_ ?_ <;> intro _)
    | refine Wv ?_
    | refine Wz ?_
    | fail)
  · have hll : p.list.length = q.list.length := by omega
    refine Wx.loop [0, 1] [0, 1] (fun (k, u) => [(5, .val (iv (k : Nat)))]) (fun (k, u) => []) (fun (k, u) => k ≤ p.list.length ∧ (u = 0 ∧ ∀ j, j < k → evBad p.list q.list j = none)) (fun (k, u) => p.list.length - k) (0, 0) ⟨Nat.zero_le _, rfl, fun _ h => by omega⟩ (fun a x y hG => ?_)
    obtain ⟨k, u⟩ := a
    obtain ⟨h1, hu, h2⟩ := hG
    dsimp only [List.cons_append, List.nil_append]
    rcases Nat.lt_or_ge k p.list.length with hk | hk
    · obtain ⟨z, hz⟩ := at_some hk
      obtain ⟨z', hz'⟩ := at_some (show k < q.list.length by omega)
      have hzo := hp.2 z (List.mem_of_getElem? hz)
      have hzo' := hq.2 z' (List.mem_of_getElem? hz')
      repeat' (first
        | intro _
        | refine Ws ?_
        | (refine Wt ?_ ?_ <;> intro _ <;> try (exfalso; omega))
        | (refine Wu ?_ ?_ <;> intro _)
        | refine Wo.callB (r_IntsD _ _ hzo hzo') (fun _ => ?_) (fun _ => ?_)
        | refine Wv ?_
        | refine Wz ?_
        | fail)
      all_goals first
        | (rename_i ha hb; exact Rd (k + 1, u) (by dsimp only; omega) ⟨by dsimp only; omega, hu, none_succ h2 (by simp only [evBad, hz, hz']; rw [if_pos ⟨ha, of_decide_eq_true hb⟩])⟩)
        | (rename_i ha hb
           have hb := scan_found (p := evBad p.list q.list) (b := ()) h2 (by simp only [evBad, hz, hz']; rw [if_neg (fun h => by simp [h.2] at hb)]) (n := p.list.length) (by omega)
           simp [eventsS, hb]; done)
        | (rename_i ha
           have hb := scan_found (p := evBad p.list q.list) (b := ()) h2 (by simp only [evBad, hz, hz']; rw [if_neg (fun h => ha h.1)]) (n := p.list.length) (by omega)
           simp [eventsS, hb]; done)
        | trace_state
    · repeat' (first
        | intro _
        | refine Ws ?_
        | (refine Wt ?_ ?_ <;> intro _ <;> try (exfalso; omega))
        | (refine Wu ?_ ?_ <;> intro _)
        | refine Wv ?_
        | refine Wz ?_
        | fail)
      have hb := scan_none (p := evBad p.list q.list) (n := p.list.length) (fun j hj => h2 j (by omega))
      rw [hll] at hb; simp [eventsS, hb, hll]
  · simp [eventsS, *]; omega

/-- what an event makes of a state -/
def applyS (s : Stt) (e : Ev) : Stt := ⟨e.at', if s.ver < 1099511627776 then s.ver + 1 else s.ver, some e.vars.list⟩
def applyR (s : Stt) (e : Ev) : Stt := ⟨e.at', if s.ver < 1099511627776 then s.ver + 1 else s.ver, e.vars⟩
theorem r_Apply (s : Stt) (e : Ev) (hs : s.ok) (he : e.ok) (H : Hp) : Runs Try.prog pol 20 [.val (sttV s), .val (evV e)] H ([.val (sttV (applyS s e))], [], H) := by
  have hf := he.2.2.1
  unfold Sl.fit at hf
  have hv := hs.2.1
  unfold w64 at hv
  refine Runs.told (fn := Try.f20) (n := 23) [(0, .val (sttV s)), (1, .val (evV e))] [(0, .gone 0), (1, .gone 0)] rfl Try.func20 rfl rfl (by kernel_rfl) rfl (by repeat' constructor) (by repeat' constructor) ?_
  repeat' (first
    | intro _
    | refine Ws ?_
    | (refine Wt ?_ ?_ <;> intro _ <;> try (exfalso; omega))
    | (refine Wu ?_ ?_ <;> intro _)
    | refine Wv ?_
    | refine Wz ?_
    | fail)
  refine Wo.appG (by8 := 8) (fun g2 hne => ?_) (fun hem => ?_) ⟨hf, by omega⟩
  · refine Wo.buildSt ?_
    repeat' (first
      | intro _
      | refine Ws ?_
      | (refine Wt ?_ ?_ <;> intro _ <;> try (exfalso; omega))
      | (refine Wu ?_ ?_ <;> intro _)
      | refine Wv ?_
      | refine Wz ?_
      | fail)
    all_goals (refine Wl.retF ?_; simp only [applyS]; (first | rw [if_pos (by assumption)] | rw [if_neg (by assumption)]); rfl)
  · refine Wo.buildFl ?_
    repeat' (first
      | intro _
      | refine Ws ?_
      | (refine Wt ?_ ?_ <;> intro _ <;> try (exfalso; omega))
      | (refine Wu ?_ ?_ <;> intro _)
      | refine Wv ?_
      | refine Wz ?_
      | fail)
    all_goals (simp only [applyS, hem]; (first | rw [if_pos (by assumption)] | rw [if_neg (by assumption)]); rfl)
theorem r_RApply (s : Stt) (e : Ev) (hs : s.ok) (H : Hp) : Runs Try.prog pol 21 [.val (sttV s), .val (evV e)] H ([.val (sttV (applyR s e))], [], H) := by
  have hv := hs.2.1
  unfold w64 at hv
  refine Runs.told (fn := Try.f21) (n := 18) [(0, .val (sttV s)), (1, .val (evV e))] [(0, .gone 0), (1, .gone 0)] rfl Try.func21 rfl rfl (by kernel_rfl) rfl (by repeat' constructor) (by repeat' constructor) ?_
  repeat' (first
    | intro _
    | refine Ws ?_
    | (refine Wt ?_ ?_ <;> intro _ <;> try (exfalso; omega))
    | (refine Wu ?_ ?_ <;> intro _)
    | refine Wo.buildP ?_
    | refine Wv ?_
    | refine Wz ?_
    | fail)
  all_goals (simp only [applyR]; (first | rw [if_pos (by assumption)] | rw [if_neg (by assumption)]); rfl)
def foldS (s : Stt) (l : List Ev) : Stt := l.foldl applyS ⟨s.at', s.ver, some s.vars.list⟩
def foldR (s : Stt) (l : List Ev) : Stt := l.foldl applyR s
theorem applyS_ok {s : Stt} {e : Ev} (hs : s.ok) (he : e.ok) : (applyS s e).ok := by
  obtain ⟨h1, h2, h3, h4⟩ := hs
  refine ⟨he.1, ?_, he.2.1, he.2.2.2⟩
  unfold applyS w64 at *
  dsimp only
  split <;> omega
theorem applyR_ok {s : Stt} {e : Ev} (hs : s.ok) (he : e.ok) : (applyR s e).ok := by
  obtain ⟨h1, h2, h3, h4⟩ := hs
  refine ⟨he.1, ?_, he.2.1, he.2.2.2⟩
  unfold applyR w64 at *
  dsimp only
  split <;> omega
theorem foldl_ok {ap : Stt → Ev → Stt} (hap : ∀ s e, s.ok → e.ok → (ap s e).ok) : ∀ {l : List Ev} {s : Stt}, s.ok → (∀ z ∈ l, z.ok) → (l.foldl ap s).ok
  | [], _, h, _ => h
  | e :: r, s, h, hl => by
    rw [List.foldl_cons]
    exact foldl_ok (l := r) hap (hap s e h (hl e (List.mem_cons_self ..))) fun z hz => hl z (List.mem_cons_of_mem _ hz)
theorem fold_take {ap : Stt → Ev → Stt} {l : List Ev} {s : Stt} {k : Nat} {e : Ev} (h : l[k]? = some e) : (l.take (k + 1)).foldl ap s = ap ((l.take k).foldl ap s) e := by
  rw [List.take_add_one, h, List.foldl_append]; rfl
end Go.Vi.CYthalmafpobmdoaa
