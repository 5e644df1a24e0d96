/-
  A clock: Set, Stop.
-/
import Derived.Test.YtmcojibgjibkdaaCrJ
namespace Go.Vi.CYtmcojibgjibkdaa
open Go.Vi Go.Proofs Go.Proofs.Ytmcojibgjibkdaa
set_option linter.unusedVariables false
set_option maxHeartbeats 8000000
set_option maxRecDepth 100000
set_option linter.unusedSimpArgs false

def nowOk (now : Int) : Prop := 0 ≤ now ∧ now ≤ 1099511627776
def badN (now n : Int) : Prop := n < 0 ∨ n > 1099511627776 - now
theorem r_SetBad {H : Hp} {c : Nat} {now k n : Int} {ts : List Tm} {S : List Nat} (h : Ck H c now ts S) (hn : nowOk now) (hb : badN now n) :
    Runs Try.prog pol 10 [.val (.ptr c 0), .val (iv k), .val (iv n)] H ([.val (iv 3)], [], H) := by
  obtain ⟨o, S0, h1, _⟩ := h
  unfold nowOk at hn
  unfold badN at hb
  refine Runs.told (fn := Try.f10) (n := 75) [(0, .val (.ptr c 0)), (1, .val (iv k)), (2, .val (iv n))] [(0, .gone 0), (1, .gone 0), (2, .gone 0)] rfl Try.func10 rfl rfl (by kernel_rfl) rfl (by repeat' constructor) (by repeat' constructor) ?_
  repeat' (first
    | intro _
    | refine Ws ?_
    | (refine Wt ?_ ?_ <;> intro _ <;> try (exfalso; omega))
    | (refine Wu ?_ ?_ <;> intro _)
    | refine Wo.loadHc h1 ?_
    | refine Wv ?_
    | refine Wz ?_
    | fail)
  all_goals first
    | rfl
    | (exfalso; omega)
theorem r_SetNew {H : Hp} {c : Nat} {now k n : Int} {ts : List Tm} {S : List Nat} (h : Ck H c now ts S) (hn : nowOk now) (hb : ¬ badN now n) (hs : Srt ts) (hk : ∀ z ∈ ts, z.key ≠ k) (hlen : ts.length < 1000000) :
    ∃ H' S', Runs Try.prog pol 10 [.val (.ptr c 0), .val (iv k), .val (iv n)] H ([.val (iv 0)], [], H') ∧ Ck H' c now (setT k (now + n) ts) S' ∧ Step H H' S S' := by
  obtain ⟨o, S0, h1, h2, h3, h4, rfl⟩ := h
  unfold nowOk at hn
  unfold badN at hb
  obtain ⟨x, om, es, cl, g1, g2, g3⟩ := h4.none hk
  obtain ⟨H', S1, hP, hR, hS⟩ := r_hPush (t := ⟨now + n, k⟩) h4 hk hlen
  have hperm : (setT k (now + n) ts).Perm (⟨now + n, k⟩ :: ts) := by
    unfold setT
    rw [stop_none hk]; exact insT_perm
  have hR' : RowS H' o (setT k (now + n) ts) S1 := by
    rcases hR with ⟨h0, _⟩ | ⟨ol, om, l, tl, ms, cl, a1, a2, a3, a4⟩
    · cases h0
    · exact .inr ⟨ol, om, l, tl, ms, cl, a1, a2, a3.trans hperm.symm, a4⟩
  obtain ⟨r1, r2⟩ := Ck.rowed h1 h2 h3 hR' hS
  refine ⟨H', _, ?_, r1, r2⟩
  refine Runs.toldH (fn := Try.f10) (n := 75) [(0, .val (.ptr c 0)), (1, .val (iv k)), (2, .val (iv n))] [(0, .gone 0), (1, .gone 0), (2, .gone 0)] rfl Try.func10 rfl rfl (by kernel_rfl) rfl (by repeat' constructor) (by repeat' constructor) ?_
  repeat' (first
    | intro _
    | refine Ws ?_
    | (refine Wt ?_ ?_ <;> intro _ <;> try (exfalso; omega))
    | (refine Wu ?_ ?_ <;> intro _)
    | refine Wo.loadHc h1 ?_
    | refine Wo.loadHc g1 ?_
    | refine Wo.lookN g2 g3 ?_
    | refine Wo.mkI Try.underlying54 (by intro s hs; cases hs) ?_
    | refine Wo.mkI Try.underlying50 (by intro s hs; cases hs) ?_
    | refine Wo.callI hP ?_
    | refine Wl.retH rfl rfl
    | refine Wv ?_
    | refine Wz ?_
    | fail)
  all_goals first
    | rfl
    | (exfalso; omega)
theorem r_SetOld {H : Hp} {c : Nat} {now n : Int} {t : Tm} {ts : List Tm} {S : List Nat} (h : Ck H c now ts S) (hn : nowOk now) (hb : ¬ badN now n) (hs : Srt ts) (ht : t ∈ ts) (hlen : ts.length < 1000000) :
    ∃ H' S', Runs Try.prog pol 10 [.val (.ptr c 0), .val (iv t.key), .val (iv n)] H ([.val (iv 0)], [], H') ∧ Ck H' c now (setT t.key (now + n) ts) S' ∧ Step H H' S S' := by
  obtain ⟨o, S0, h1, h2, h3, h4, rfl⟩ := h
  unfold nowOk at hn
  unfold badN at hb
  obtain ⟨ol, om, l, tl, ms, cl, hR, hh, hp, rfl, i, m, b, hi, hm⟩ := h4.some ht
  have r0 := hR.row
  have g0 := hR.lst
  have tt := tl_at (tl := tl) hi
  have f1 := (hR.mp.pw.find hm).1
  have hil := (List.getElem?_eq_some_iff.1 hi).1
  have hl := hp.length_eq
  obtain ⟨HA, hHA⟩ : ∃ HA, HA = H.set ol (some (.row (((l ++ tl).set i ⟨now + n, t.key⟩).map tmV) 2)) := ⟨_, rfl⟩
  have q1 : (l.set i ⟨now + n, t.key⟩ ++ tl) = (l ++ tl).set i ⟨now + n, t.key⟩ := by rw [List.set_append_left _ _ hil]
  simp only [List.mem_cons, List.not_mem_nil, or_false, not_or] at h2
  have hRA : RowAt HA o ol om (l.set i ⟨now + n, t.key⟩) tl ms cl := by
    refine ⟨?_, ?_, ?_, hR.ne1, hR.ne2, hR.ne3, by rw [hHA]; exact hR.lo, by rw [hHA]; exact hR.lol, by rw [hHA]; exact hR.lom, hR.mp.setAt hi rfl⟩
    · rw [hHA, set_ne hR.ne1, r0, List.length_set]
    · rw [hHA, set_eq, q1]
    · rw [hHA, set_ne hR.ne3.symm, hR.map]
  have hSA : Same H HA ol om := ⟨by rw [hHA]; rfl, fun q h5 _ => by rw [hHA, set_ne h5]⟩
  have hcA : HA.objs c = some (.cells [iv now, .ptr o 0]) := by rw [hHA, set_ne h2.2.1, h1]
  have hla : (l.set i (⟨now + n, t.key⟩ : Tm)).length = l.length := List.length_set ..
  obtain ⟨H', l', m', hF, hR', hS', hP', hH'⟩ := r_hFix hRA (by rw [hla]; exact any_of_heap hh (Nat.le_refl _) _) (by rw [hla]; exact hil) (by rw [hla]; omega)
  obtain ⟨r1, r2⟩ := Ck.rowed (ts' := setT t.key (now + n) ts) h1 (S0 := [o, ol, om]) (by simp only [List.mem_cons, List.not_mem_nil, or_false, not_or]; exact h2) h3 (.inr ⟨ol, om, l', tl, m', cl, hR', hH', hP'.trans (set_perm hp hs hi rfl), rfl⟩) (hSA.step.trans hS'.step)
  refine ⟨H', _, ?_, r1, r2⟩
  refine Runs.toldH (fn := Try.f10) (n := 75) [(0, .val (.ptr c 0)), (1, .val (iv t.key)), (2, .val (iv n))] [(0, .gone 0), (1, .gone 0), (2, .gone 0)] rfl Try.func10 rfl rfl (by kernel_rfl) rfl (by repeat' constructor) (by repeat' constructor) ?_
  repeat' (first
    | intro _
    | refine Ws ?_
    | (refine Wt ?_ ?_ <;> intro _ <;> try (exfalso; omega))
    | (refine Wu ?_ ?_ <;> intro _)
    | refine Wo.loadHc h1 ?_
    | refine Wo.loadHc r0 ?_
    | refine Wo.lookS hR.map f1 ?_
    | refine Wo.idxHs ?_
    | refine Wo.storeHf (fo := 0) (b := ⟨now + n, t.key⟩) g0 tt hHA.symm ?_
    | refine Wo.loadHc hcA ?_
    | refine Wo.mkI Try.underlying54 (by intro s hs; cases hs) ?_
    | refine Wo.callI hF ?_
    | refine Wl.retH rfl rfl
    | refine Wv ?_
    | refine Wz ?_
    | fail)
  all_goals first
    | rfl
    | (exfalso; omega)
theorem r_Set {H : Hp} {c : Nat} {now k n : Int} {ts : List Tm} {S : List Nat} (h : Ck H c now ts S) (hn : nowOk now) (hb : ¬ badN now n) (hs : Srt ts) (hlen : ts.length < 1000000) :
    ∃ H' S', Runs Try.prog pol 10 [.val (.ptr c 0), .val (iv k), .val (iv n)] H ([.val (iv 0)], [], H') ∧ Ck H' c now (setT k (now + n) ts) S' ∧ Step H H' S S' := by
  by_cases hk : ∃ t ∈ ts, t.key = k
  · obtain ⟨t, ht, rfl⟩ := hk
    exact r_SetOld h hn hb hs ht hlen
  · exact r_SetNew h hn hb hs (fun z hz e => hk ⟨z, hz, e⟩) hlen
theorem r_Stop0 {H : Hp} {c : Nat} {now k : Int} {ts : List Tm} {S : List Nat} (h : Ck H c now ts S) (hk : ∀ z ∈ ts, z.key ≠ k) :
    Runs Try.prog pol 12 [.val (.ptr c 0), .val (iv k)] H ([.val (iv 8)], [], H) := by
  obtain ⟨o, S0, h1, h2, h3, h4, _⟩ := h
  obtain ⟨x, om, es, cl, g1, g2, g3⟩ := h4.none hk
  refine Runs.told (fn := Try.f12) (n := 30) [(0, .val (.ptr c 0)), (1, .val (iv k))] [(0, .gone 0), (1, .gone 0)] rfl Try.func12 rfl rfl (by kernel_rfl) rfl (by repeat' constructor) (by repeat' constructor) ?_
  repeat' (first
    | intro _
    | refine Ws ?_
    | (refine Wt ?_ ?_ <;> intro _ <;> try (exfalso; omega))
    | (refine Wu ?_ ?_ <;> intro _)
    | refine Wo.loadHc h1 ?_
    | refine Wo.loadHc g1 ?_
    | refine Wo.lookN g2 g3 ?_
    | refine Wv ?_
    | refine Wz ?_
    | fail)
  rfl
theorem r_Stop1 {H : Hp} {c : Nat} {now : Int} {t : Tm} {ts : List Tm} {S : List Nat} (h : Ck H c now ts S) (hs : Srt ts) (ht : t ∈ ts) (hlen : ts.length < 1000000) :
    ∃ H' S', Runs Try.prog pol 12 [.val (.ptr c 0), .val (iv t.key)] H ([.val (iv 0)], [], H') ∧ Ck H' c now (stopT t.key ts) S' ∧ Step H H' S S' := by
  obtain ⟨o, S0, h1, h2, h3, h4, rfl⟩ := h
  obtain ⟨ol, om, l, tl, ms, cl, hR, hh, hp, rfl, i, m, b, hi, hm⟩ := h4.some ht
  have r0 := hR.row
  have f1 := (hR.mp.pw.find hm).1
  have hl := hp.length_eq
  obtain ⟨H', l', tl', m', hF, hR', hH', hP', hS'⟩ := r_hRemove hR hh hi (by omega)
  obtain ⟨r1, r2⟩ := Ck.rowed (ts' := stopT t.key ts) h1 h2 h3 (.inr ⟨ol, om, l', tl', m', cl, hR', hH', stop_perm (hP'.trans hp) hs, rfl⟩) hS'
  refine ⟨H', _, ?_, r1, r2⟩
  refine Runs.toldH (fn := Try.f12) (n := 30) [(0, .val (.ptr c 0)), (1, .val (iv t.key))] [(0, .gone 0), (1, .gone 0)] rfl Try.func12 rfl rfl (by kernel_rfl) rfl (by repeat' constructor) (by repeat' constructor) ?_
  repeat' (first
    | intro _
    | refine Ws ?_
    | (refine Wt ?_ ?_ <;> intro _ <;> try (exfalso; omega))
    | (refine Wu ?_ ?_ <;> intro _)
    | refine Wo.loadHc h1 ?_
    | refine Wo.loadHc r0 ?_
    | refine Wo.lookS hR.map f1 ?_
    | refine Wo.mkI Try.underlying54 (by intro s hs; cases hs) ?_
    | refine Wo.callI hF ?_
    | refine Wl.retH rfl rfl
    | refine Wv ?_
    | refine Wz ?_
    | fail)
  rfl
end Go.Vi.CYtmcojibgjibkdaa
