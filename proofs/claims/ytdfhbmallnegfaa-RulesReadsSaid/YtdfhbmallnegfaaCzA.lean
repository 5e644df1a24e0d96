/-
  Which variables each rule names, and which it sets: the walk of the law.
-/
import Derived.Test.YtdfhbmallnegfaaCxZ
import Derived.Test.YtdfhbmallnegfaaCxQ
import Derived.Test.YtdfhbmallnegfaaCxIa
import Derived.Test.YtdfhbmallnegfaaCxM
namespace Go.Vi.CYtdfhbmallnegfaa
open Go.Vi Go.Proofs Go.Proofs.Ytdfhbmallnegfaa Go.RowKit
set_option linter.unusedVariables false
set_option maxHeartbeats 8000000
set_option maxRecDepth 100000
set_option linter.unusedSimpArgs false

theorem r_RulesReads0 (t : Tb) (n : Int) (ht : t.ok) (h : right' t = false ∨ n < 0 ∨ n ≥ t.rules.list.length) (H : Hp) : Runs Try.prog pol 8 [.val (tbV t), .val (iv n)] H ([.val (.bool true)], [], H) := by
  have hrl := ht.2.2.2.1
  unfold Sl.ok at hrl
  refine Runs.told (fn := Try.f8) (n := 88) [(0, .val (tbV t)), (1, .val (iv n))] [(0, .gone 0), (1, .gone 0)] rfl Try.func8 rfl rfl (by kernel_rfl) rfl (by repeat' constructor) (by repeat' constructor) ?_
  have h1 := r_Reads0 t n ht h H
  have h2 := r_Writes0 t n ht h
  repeat' (first
    | intro _
    | refine Ws ?_
    | (refine Wt ?_ ?_ <;> intro _ <;> try (exfalso; omega))
    | (refine Wu ?_ ?_ <;> intro _)
    | refine Wo.callB (r_awake) (fun _ => ?_) (fun _ => ?_)
    | refine Wo.call0 (r_RCheck t ht) ?_
    | refine Wo.callI h1 ?_
    | refine Wo.call0 (h2) ?_
    | refine Wv ?_
    | refine Wz ?_
    | fail)
  all_goals first
    | rfl
    | (exfalso; rename_i h; cases h; done)
    | (exfalso
       have hz : right' t = true := by assumption
       rcases h with h | h | h
       · rw [hz] at h; cases h
       · omega
       · omega)
    | trace_state
theorem r_RulesReads1 (t : Tb) (i : Nat) (r : Rl) (ht : t.ok) (hR : right' t = true) (hr : t.rules.list[i]? = some r) (H : Hp) : Runs Try.prog pol 8 [.val (tbV t), .val (iv i)] H ([.val (.bool true)], [], hpR H t.vars.list.length (readsL r t.vars.list.length)) := by
  have hrl := ht.2.2.2.1
  have hro := ht.2.2.2.2 r (List.mem_of_getElem? hr)
  unfold Sl.ok at hrl
  have hil : i < t.rules.list.length := (List.getElem?_eq_some_iff.1 hr).1
  have hst := right_states hR
  have hvo := right_vars hR hr
  have hv6 := hst.2.2.1
  have h1 := r_Reads t i r ht hR hr hv6 (fun g hg => uses_lenV (hvo.1 g hg)) (fun s hs x hx => uses_lenV (hvo.2 s hs x hx).2) H
  have h2 : ∀ H, Runs Try.prog pol 24 [.val (tbV t), .val (iv i)] H ([.val (slV VV.bool (some (writesL r t.vars.list.length)))], [], H) := r_Writes t i r ht hR hr hv6 (fun s hs x hx => (hvo.2 s hs x hx).1)
  have hwl : (Sl.list (some (writesL r t.vars.list.length))).length = t.vars.list.length := writes_len
  refine Runs.toldH (fn := Try.f8) (n := 88) [(0, .val (tbV t)), (1, .val (iv i))] [(0, .gone 0), (1, .gone 0)] rfl Try.func8 rfl rfl (by kernel_rfl) rfl (by repeat' constructor) (by repeat' constructor) ?_
  repeat' (first
    | intro _
    | refine Ws ?_
    | (refine Wt ?_ ?_ <;> intro _ <;> try (exfalso; omega))
    | (refine Wu ?_ ?_ <;> intro _)
    | refine Wo.callB (r_awake) (fun _ => ?_) (fun _ => ?_)
    | refine Wo.call0 (r_RCheck t ht) ?_
    | refine Wo.callI h1 ?_
    | refine Wo.call0 (h2) ?_
    | refine Wo.lenH ?_
    | refine Wv ?_
    | refine Wz ?_
    | fail)
  all_goals first
    | (exfalso
       have hz : right' t = false := by assumption
       rw [hR] at hz; cases hz; done)
    | (exfalso; omega)
    | (exfalso; rename_i h; cases h; done)
    | skip
  refine Wx.loop [1, 2, 5, 6] [0, 1, 2, 10, 13, 15, 29, 53] (fun k => [(7, .val (iv (k : Nat)))]) (fun k => []) (fun k => k ≤ t.vars.list.length ∧ True) (fun k => t.vars.list.length - k) 0 ⟨Nat.zero_le _, trivial⟩ (fun k x y hG => ?_)
  obtain ⟨q1, q2⟩ := hG
  dsimp only [List.cons_append, List.nil_append]
  rcases Nat.lt_or_ge k t.vars.list.length with hk | hk
  · have ha := reads_get hvo hk hv6
    have hb : (Sl.list (some (writesL r t.vars.list.length)))[k]? = some (writesB r k) := writes_get hvo hk
    have hrr := r_RReads r k hro
    have hrw := r_RWrites r k hro
    generalize readsB r k = b1 at ha hrr
    generalize writesB r k = b2 at hb hrw
    cases b1 <;> cases b2
    · repeat' (first
        | intro _
        | refine Ws ?_
        | (refine Wt ?_ ?_ <;> intro _ <;> try (exfalso; omega))
        | (refine Wu ?_ ?_ <;> intro _)
        | refine Wo.idxH ?_
        | refine Wo.loadHr (enc := VV.bool) hpR_r ha ?_
        | refine Wo.call0 (hrr) ?_
        | refine Wo.call0 (hrw) ?_
        | refine Wo.lenH ?_
        | refine Wv ?_
        | refine Wz ?_
        | fail)
      exact Rd (k + 1) (by omega) ⟨by omega, trivial⟩
    · repeat' (first
        | intro _
        | refine Ws ?_
        | (refine Wt ?_ ?_ <;> intro _ <;> try (exfalso; omega))
        | (refine Wu ?_ ?_ <;> intro _)
        | refine Wo.idxH ?_
        | refine Wo.loadHr (enc := VV.bool) hpR_r ha ?_
        | refine Wo.call0 (hrr) ?_
        | refine Wo.call0 (hrw) ?_
        | refine Wo.lenH ?_
        | refine Wv ?_
        | refine Wz ?_
        | fail)
      exact Rd (k + 1) (by omega) ⟨by omega, trivial⟩
    · repeat' (first
        | intro _
        | refine Ws ?_
        | (refine Wt ?_ ?_ <;> intro _ <;> try (exfalso; omega))
        | (refine Wu ?_ ?_ <;> intro _)
        | refine Wo.idxH ?_
        | refine Wo.loadHr (enc := VV.bool) hpR_r ha ?_
        | refine Wo.call0 (hrr) ?_
        | refine Wo.call0 (hrw) ?_
        | refine Wo.lenH ?_
        | refine Wv ?_
        | refine Wz ?_
        | fail)
      exact Rd (k + 1) (by omega) ⟨by omega, trivial⟩
    · repeat' (first
        | intro _
        | refine Ws ?_
        | (refine Wt ?_ ?_ <;> intro _ <;> try (exfalso; omega))
        | (refine Wu ?_ ?_ <;> intro _)
        | refine Wo.idxH ?_
        | refine Wo.loadHr (enc := VV.bool) hpR_r ha ?_
        | refine Wo.call0 (hrr) ?_
        | refine Wo.call0 (hrw) ?_
        | refine Wo.lenH ?_
        | refine Wv ?_
        | refine Wz ?_
        | fail)
      exact Rd (k + 1) (by omega) ⟨by omega, trivial⟩
  · repeat' (first
      | intro _
      | refine Ws ?_
      | (refine Wt ?_ ?_ <;> intro _ <;> try (exfalso; omega))
      | (refine Wu ?_ ?_ <;> intro _)
      | refine Wo.lenH ?_
      | refine Wv ?_
      | refine Wz ?_
      | fail)
    rfl
/-- the law answers true; objects may be left -/
theorem r_RulesReads (t : Tb) (n : Int) (ht : t.ok) : ∃ H', Runs Try.prog pol 8 [.val (tbV t), .val (iv n)] (Hp.bare 0) ([.val (.bool true)], [], H') := by
  by_cases h : right' t = false ∨ n < 0 ∨ n ≥ t.rules.list.length
  · exact ⟨_, r_RulesReads0 t n ht h _⟩
  · have hn : n.toNat < t.rules.list.length := by omega
    have hR : right' t = true := by
      cases hr : right' t with
      | true => rfl
      | false => exact absurd (Or.inl hr) h
    have := r_RulesReads1 t n.toNat _ ht hR (List.getElem?_eq_getElem hn) (Hp.bare 0)
    rw [show ((n.toNat : Nat) : Int) = n by omega] at this
    exact ⟨_, this⟩
theorem topH {f : FuncId} {us : List VV} {b : Bool} (h : ∃ H', Runs Try.prog pol f (us.map .val) (Hp.bare 0) ([.val (.bool b)], [], H')) {W : World} {vals : List Value} (hl : vals.length = us.length) (hv : ∀ (i : Nat) (x : VV) (v : Value), us[i]? = some x → vals[i]? = some v → WR W x v) :
    Calls Try.prog f vals.toArray W fun e W' => e = .returned (.bool b) ∧ Below W.heap.size W W' := by
  obtain ⟨H', k, hk⟩ := h
  refine Calls.mono (callV_top (Checked.mixed Try.checked) calm05 (fun f g args rs bs hg => by cases hg) hk rfl hl hv) fun e W' he => ?_
  obtain ⟨v, rfl, hb, hr⟩ := he
  cases hr
  exact ⟨rfl, hb⟩
end Go.Vi.CYtdfhbmallnegfaa
