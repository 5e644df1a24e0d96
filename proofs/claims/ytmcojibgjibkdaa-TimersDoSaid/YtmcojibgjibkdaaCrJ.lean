/-
  A clock: its calls.
-/
import Derived.Test.YtmcojibgjibkdaaCrI
namespace Go.Vi.CYtmcojibgjibkdaa
open Go.Vi Go.Proofs Go.Proofs.Ytmcojibgjibkdaa
set_option linter.unusedVariables false
set_option maxHeartbeats 8000000
set_option maxRecDepth 100000
set_option linter.unusedSimpArgs false

/-- these objects are as they were -/
def Keep (H H' : Hp) (S : List Nat) : Prop := H.next ≤ H'.next ∧ ∀ q ∈ S, H'.objs q = H.objs q
theorem RowS.lt {H : Hp} {o : Nat} {ts : List Tm} {S : List Nat} (h : RowS H o ts S) : ∀ q ∈ S, q < H.next := by
  rcases h with ⟨_, om, h, rfl⟩ | ⟨ol, om, l, tl, ms, cl, h, _, _, rfl⟩
  · intro q hq
    simp only [List.mem_cons, List.not_mem_nil, or_false] at hq
    rcases hq with rfl | rfl
    · exact h.lo
    · exact h.lom
  · intro q hq
    simp only [List.mem_cons, List.not_mem_nil, or_false] at hq
    rcases hq with rfl | rfl | rfl
    · exact h.lo
    · exact h.lol
    · exact h.lom
theorem RowS.keep {H H' : Hp} {o : Nat} {ts : List Tm} {S : List Nat} (h : RowS H o ts S) (k : Keep H H' S) : RowS H' o ts S := by
  rcases h with ⟨e, om, h, rfl⟩ | ⟨ol, om, l, tl, ms, cl, h, h2, h3, rfl⟩
  · exact .inl ⟨e, om, ⟨(k.2 o (by simp)).trans h.row, (k.2 om (by simp)).trans h.map, h.ne2, Nat.lt_of_lt_of_le h.lo k.1, Nat.lt_of_lt_of_le h.lom k.1⟩, rfl⟩
  · exact .inr ⟨ol, om, l, tl, ms, cl, ⟨(k.2 o (by simp)).trans h.row, (k.2 ol (by simp)).trans h.lst, (k.2 om (by simp)).trans h.map, h.ne1, h.ne2, h.ne3, Nat.lt_of_lt_of_le h.lo k.1, Nat.lt_of_lt_of_le h.lol k.1, Nat.lt_of_lt_of_le h.lom k.1, h.mp⟩, h2, h3, rfl⟩
/-- a clock -/
def Ck (H : Hp) (c : Nat) (now : Int) (ts : List Tm) (S : List Nat) : Prop := ∃ o S0, H.objs c = some (.cells [iv now, .ptr o 0]) ∧ c ∉ S0 ∧ c < H.next ∧ RowS H o ts S0 ∧ S = c :: S0
theorem Ck.lt {H : Hp} {c : Nat} {now : Int} {ts : List Tm} {S : List Nat} (h : Ck H c now ts S) : ∀ q ∈ S, q < H.next := by
  obtain ⟨o, S0, h1, h2, h3, h4, rfl⟩ := h
  intro q hq
  rcases List.mem_cons.1 hq with rfl | hq
  · exact h3
  · exact h4.lt q hq
theorem Ck.keep {H H' : Hp} {c : Nat} {now : Int} {ts : List Tm} {S : List Nat} (h : Ck H c now ts S) (k : Keep H H' S) : Ck H' c now ts S := by
  obtain ⟨o, S0, h1, h2, h3, h4, rfl⟩ := h
  exact ⟨o, S0, (k.2 c (List.mem_cons_self ..)).trans h1, h2, Nat.lt_of_lt_of_le h3 k.1, h4.keep ⟨k.1, fun q hq => k.2 q (List.mem_cons_of_mem _ hq)⟩, rfl⟩
/-- the row behind a clock changed -/
theorem Ck.rowed {H H' : Hp} {c o : Nat} {now : Int} {ts' : List Tm} {S0 S1 : List Nat} (h1 : H.objs c = some (.cells [iv now, .ptr o 0])) (h2 : c ∉ S0) (h3 : c < H.next) (hr : RowS H' o ts' S1) (hs : Step H H' S0 S1) : Ck H' c now ts' (c :: S1) ∧ Step H H' (c :: S0) (c :: S1) := by
  have h4 : c ∉ S1 := fun hq => by
    rcases hs.gr c hq with h | h
    · exact h2 h
    · omega
  refine ⟨⟨o, S1, (hs.ob c h3 h2).trans h1, h4, Nat.lt_of_lt_of_le h3 hs.nx, hr, rfl⟩, hs.nx, fun q q1 q2 => hs.ob q q1 fun e => q2 (List.mem_cons_of_mem _ e), fun q hq => ?_⟩
  rcases List.mem_cons.1 hq with rfl | hq
  · exact .inl (List.mem_cons_self ..)
  · rcases hs.gr q hq with h | h
    · exact .inl (List.mem_cons_of_mem _ h)
    · exact .inr h
theorem RowS.none {H : Hp} {o : Nat} {ts : List Tm} {S : List Nat} (h : RowS H o ts S) {k : Int} (hk : ∀ z ∈ ts, z.key ≠ k) :
    ∃ x om es cl, H.objs o = some (.cells [x, .map (some om)]) ∧ H.objs om = some (.map es cl) ∧ findV (.int .i64) (iv k) es 0 = some none := by
  rcases h with ⟨_, om, h, _⟩ | ⟨ol, om, l, tl, ms, cl, h, _, hp, _⟩
  · exact ⟨_, om, _, _, h.row, h.map, rfl⟩
  · refine ⟨_, om, _, _, h.row, h.map, find_not fun e he hh => ?_⟩
    obtain ⟨z, hz, hzk⟩ := h.mp.to e he
    exact hk z (hp.mem_iff.1 (List.mem_of_getElem? hz)) (hzk.trans hh)
theorem RowS.some {H : Hp} {o : Nat} {ts : List Tm} {S : List Nat} (h : RowS H o ts S) {t : Tm} (ht : t ∈ ts) :
    ∃ ol om l tl ms cl, RowAt H o ol om l tl ms cl ∧ HeapP l l.length ∧ l.Perm ts ∧ S = [o, ol, om] ∧ ∃ (i m b : Nat), l[i]? = some t ∧ ms[m]? = some (t.key, i, b) := by
  rcases h with ⟨h0, _⟩ | ⟨ol, om, l, tl, ms, cl, h, hh, hp, e⟩
  · subst h0; cases ht
  · obtain ⟨i, hi⟩ := List.getElem?_of_mem (hp.mem_iff.2 ht)
    obtain ⟨m, b, hm⟩ := h.mp.at hi
    exact ⟨ol, om, l, tl, ms, cl, h, hh, hp, e, i, m, b, hi, hm⟩

theorem r_New (H : Hp) : ∃ c H' S, Runs Try.prog pol 8 [] H ([.val (.ptr c 0)], [], H') ∧ Ck H' c 0 [] S ∧ Step H H' [] S := by
  obtain ⟨HA, hHA⟩ : ∃ HA, HA = H.put (.map [] 0) := ⟨_, rfl⟩
  obtain ⟨HB, hHB⟩ : ∃ HB, HB = HA.put (.cells [.nils, .map (some H.next)]) := ⟨_, rfl⟩
  obtain ⟨HC, hHC⟩ : ∃ HC, HC = HB.put (.cells [iv 0, .ptr HA.next 0]) := ⟨_, rfl⟩
  have nA : HA.next = H.next + 1 := by rw [hHA]; rfl
  have nB : HB.next = H.next + 2 := by rw [hHB, put_next, nA]
  have nC : HC.next = H.next + 3 := by rw [hHC, put_next, nB]
  refine ⟨HB.next, HC, _, ?_, ⟨HA.next, _, ?_, ?_, by omega, .inl ⟨rfl, H.next, ⟨?_, ?_, by omega, by omega, by omega⟩, rfl⟩, rfl⟩, by omega, fun q h1 _ => ?_, fun q hq => ?_⟩
  · refine Runs.toldH (fn := Try.f8) (n := 6) [] [] rfl Try.func8 rfl rfl (by kernel_rfl) rfl (by repeat' constructor) (by repeat' constructor) ?_
    repeat' (first
      | intro _
      | refine Ws ?_
      | (refine Wt ?_ ?_ <;> intro _ <;> try (exfalso; omega))
      | (refine Wu ?_ ?_ <;> intro _)
      | refine Wo.mapMake hHA.symm ?_
      | refine Wo.boxH (b := .agg [.nils, .map (some H.next)]) hHB.symm ?_
      | refine Wo.boxH (b := .agg [iv 0, .ptr HA.next 0]) hHC.symm ?_
      | refine Wl.retH rfl rfl
      | refine Wv ?_
      | refine Wz ?_
      | fail)
    rfl
  · rw [hHC, put_eq]
  · simp only [List.mem_cons, List.not_mem_nil, or_false, not_or]; omega
  · rw [hHC, put_ne (by omega), hHB, put_eq]
  · rw [hHC, put_ne (by omega), hHB, put_ne (by omega), hHA, put_eq]
  · rw [hHC, put_ne (by omega), hHB, put_ne (by omega), hHA, put_ne (by omega)]
  · simp only [List.mem_cons, List.not_mem_nil, or_false] at hq; omega
theorem r_Now {H : Hp} {c : Nat} {now : Int} {ts : List Tm} {S : List Nat} (h : Ck H c now ts S) : Runs Try.prog pol 11 [.val (.ptr c 0)] H ([.val (iv now)], [], H) := by
  obtain ⟨o, S0, h1, _⟩ := h
  refine ⟨1, ?_⟩
  have e : pol.ext 11 = some nowX := rfl
  simp only [callV, e, nowX, h1, Option.map_some]
theorem r_Due0 {H : Hp} {c : Nat} {now : Int} {ts : List Tm} {S : List Nat} {k : Int} (h : Ck H c now ts S) (hk : ∀ z ∈ ts, z.key ≠ k) : Runs Try.prog pol 14 [.val (.ptr c 0), .val (iv k)] H ([.val (iv 0), .val (.bool false)], [], H) := by
  obtain ⟨o, S0, h1, h2, h3, h4, _⟩ := h
  obtain ⟨x, om, es, cl, g1, g2, g3⟩ := h4.none hk
  refine Runs.told (fn := Try.f14) (n := 35) [(0, .val (.ptr c 0)), (1, .val (iv k))] [(0, .gone 0), (1, .gone 0)] rfl Try.func14 rfl rfl (by kernel_rfl) rfl (by repeat' constructor) (by repeat' constructor) ?_
  repeat' (first
    | intro _
    | refine Ws ?_
    | (refine Wt ?_ ?_ <;> intro _ <;> try (exfalso; omega))
    | (refine Wu ?_ ?_ <;> intro _)
    | refine Wo.loadHc h1 ?_
    | refine Wo.loadHc g1 ?_
    | refine Wo.lookN g2 g3 ?_
    | refine Wv ?_
    | refine Wz ?_
    | fail)
  rfl
theorem r_Due1 {H : Hp} {c : Nat} {now : Int} {ts : List Tm} {S : List Nat} {t : Tm} (h : Ck H c now ts S) (ht : t ∈ ts) (hlen : ts.length ≤ 1000000) : Runs Try.prog pol 14 [.val (.ptr c 0), .val (iv t.key)] H ([.val (iv t.due), .val (.bool true)], [], H) := by
  obtain ⟨o, S0, h1, h2, h3, h4, _⟩ := h
  obtain ⟨ol, om, l, tl, ms, cl, hR, _, hp, _, i, m, b, hi, hm⟩ := h4.some ht
  have r0 := hR.row
  have g0 := hR.lst
  have tt := tl_at (tl := tl) hi
  have f1 := (hR.mp.pw.find hm).1
  have hil := (List.getElem?_eq_some_iff.1 hi).1
  have hl := hp.length_eq
  refine Runs.told (fn := Try.f14) (n := 35) [(0, .val (.ptr c 0)), (1, .val (iv t.key))] [(0, .gone 0), (1, .gone 0)] rfl Try.func14 rfl rfl (by kernel_rfl) rfl (by repeat' constructor) (by repeat' constructor) ?_
  repeat' (first
    | intro _
    | refine Ws ?_
    | (refine Wt ?_ ?_ <;> intro _ <;> try (exfalso; omega))
    | (refine Wu ?_ ?_ <;> intro _)
    | refine Wo.loadHc h1 ?_
    | refine Wo.loadHc r0 ?_
    | refine Wo.lookS hR.map f1 ?_
    | refine Wo.idxHs ?_
    | refine Wo.loadHs (fo := 0) g0 tt ?_
    | refine Wv ?_
    | refine Wz ?_
    | fail)
  rfl
theorem r_First0 {H : Hp} {c : Nat} {now : Int} {S : List Nat} (h : Ck H c now [] S) : Runs Try.prog pol 19 [.val (.ptr c 0)] H ([.val (tmV ⟨0, 0⟩), .val (.bool false)], [], H) := by
  obtain ⟨o, S0, h1, h2, h3, h4, _⟩ := h
  rcases h4 with ⟨_, om, h, _⟩ | ⟨ol, om, l, tl, ms, cl, h, _, hp, _⟩
  · have r0 := h.row
    refine Runs.told (fn := Try.f19) (n := 27) [(0, .val (.ptr c 0))] [(0, .gone 0)] rfl Try.func19 rfl rfl (by kernel_rfl) rfl (by repeat' constructor) (by repeat' constructor) ?_
    repeat' (first
      | intro _
      | refine Ws ?_
      | (refine Wt ?_ ?_ <;> intro _ <;> try (exfalso; omega))
      | (refine Wu ?_ ?_ <;> intro _)
      | refine Wo.loadHc h1 ?_
      | refine Wo.loadHc r0 ?_
      | refine Wv ?_
      | refine Wz ?_
      | fail)
    rfl
  · have r0 := h.row
    have hl : l.length = 0 := hp.length_eq
    refine Runs.told (fn := Try.f19) (n := 27) [(0, .val (.ptr c 0))] [(0, .gone 0)] rfl Try.func19 rfl rfl (by kernel_rfl) rfl (by repeat' constructor) (by repeat' constructor) ?_
    repeat' (first
      | intro _
      | refine Ws ?_
      | (refine Wt ?_ ?_ <;> intro _ <;> try (exfalso; omega))
      | (refine Wu ?_ ?_ <;> intro _)
      | refine Wo.loadHc h1 ?_
      | refine Wo.loadHc r0 ?_
      | refine Wo.lenH ?_
      | refine Wv ?_
      | refine Wz ?_
      | fail)
    rfl
theorem r_First1 {H : Hp} {c : Nat} {now : Int} {t : Tm} {ts : List Tm} {S : List Nat} (h : Ck H c now (t :: ts) S) (hk : ∀ z ∈ ts, le t z) : Runs Try.prog pol 19 [.val (.ptr c 0)] H ([.val (tmV t), .val (.bool true)], [], H) := by
  obtain ⟨o, S0, h1, h2, h3, h4, _⟩ := h
  obtain ⟨ol, om, l, tl, ms, cl, hR, hh, hp, _, i, m, b, hi, hm⟩ := h4.some (List.mem_cons_self ..)
  have r0 := hR.row
  have g0 := hR.lst
  have hl : l.length = ts.length + 1 := hp.length_eq
  obtain ⟨a, ha⟩ := at_some (show 0 < l.length by omega)
  have hat : a = t := by
    refine le_antisymm (heap_first hh ha (Nat.le_refl _) i t (List.getElem?_eq_some_iff.1 hi).1 hi) ?_
    rcases List.mem_cons.1 (hp.mem_iff.1 (List.mem_of_getElem? ha)) with e | e
    · rw [e]; exact le_refl _
    · exact hk a e
  subst hat
  have tt := tl_at (tl := tl) ha
  refine Runs.told (fn := Try.f19) (n := 27) [(0, .val (.ptr c 0))] [(0, .gone 0)] rfl Try.func19 rfl rfl (by kernel_rfl) rfl (by repeat' constructor) (by repeat' constructor) ?_
  repeat' (first
    | intro _
    | refine Ws ?_
    | (refine Wt ?_ ?_ <;> intro _ <;> try (exfalso; omega))
    | (refine Wu ?_ ?_ <;> intro _)
    | refine Wo.loadHc h1 ?_
    | refine Wo.loadHc r0 ?_
    | refine Wo.lenH ?_
    | refine Wo.idxHs ?_
    | refine Wo.loadHs (fo := 0) g0 tt ?_
    | refine Wv ?_
    | refine Wz ?_
    | fail)
  rfl
end Go.Vi.CYtmcojibgjibkdaa
