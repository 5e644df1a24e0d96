/-
  A row of timers: one in, the last one out; up and down.
-/
import Derived.Test.YtmcojibgjibkdaaCrE
namespace Go.Vi.CYtmcojibgjibkdaa
open Go.Vi Go.Proofs Go.Proofs.Ytmcojibgjibkdaa
set_option linter.unusedVariables false
set_option maxHeartbeats 8000000
set_option maxRecDepth 100000
set_option linter.unusedSimpArgs false

/-- a row that has had no timer yet -/
structure Row0 (H : Hp) (o om : Nat) : Prop where
  row : H.objs o = some (.cells [.nils, .map (some om)])
  map : H.objs om = some (.map [] 0)
  ne2 : o ≠ om
  lo : o < H.next
  lom : om < H.next
/-- what a call changes: the objects of S, and new ones; S' are then its objects -/
structure Step (H H' : Hp) (S S' : List Nat) : Prop where
  nx : H.next ≤ H'.next
  ob : ∀ q, q < H.next → q ∉ S → H'.objs q = H.objs q
  gr : ∀ q ∈ S', q ∈ S ∨ H.next ≤ q
theorem Step.refl {H : Hp} {S : List Nat} : Step H H S S := ⟨Nat.le_refl _, fun _ _ _ => rfl, fun _ h => .inl h⟩
theorem Step.trans {H H' H'' : Hp} {S S' S'' : List Nat} (h : Step H H' S S') (h' : Step H' H'' S' S'') : Step H H'' S S'' := by
  refine ⟨Nat.le_trans h.nx h'.nx, fun q h1 h2 => ?_, fun q hq => ?_⟩
  · have h3 : q ∉ S' := fun h3 => by
      rcases h.gr q h3 with h4 | h4
      · exact h2 h4
      · omega
    exact (h'.ob q (Nat.lt_of_lt_of_le h1 h.nx) h3).trans (h.ob q h1 h2)
  · rcases h'.gr q hq with h3 | h3
    · exact h.gr q h3
    · exact .inr (Nat.le_trans h.nx h3)
theorem Same.step {H H' : Hp} {o ol om : Nat} (h : Same H H' ol om) : Step H H' [o, ol, om] [o, ol, om] :=
  ⟨by rw [h.1]; exact Nat.le_refl _, fun q _ h2 => h.2 q (fun e => h2 (by simp [e])) (fun e => h2 (by simp [e])), fun _ h => .inl h⟩

theorem r_Push {H : Hp} {o ol om cl : Nat} {l tl : List Tm} {ms : List En} {t : Tm} (h : RowAt H o ol om l tl ms cl) (hk : ∀ z ∈ l, z.key ≠ t.key) (hn : l.length ≤ 1000000) :
    ∃ H' ms', Runs Try.prog pol 71 [.val (.ptr o 0), .val (.iface 50 (tmV t))] H ([], [], H') ∧ RowAt H' o H.next om (l ++ [t]) [] ms' (cl + 1) ∧ Step H H' [o, ol, om] [o, H.next, om] := by
  have hms : ∀ e ∈ ms, e.1 ≠ t.key := fun e he hh => by
    obtain ⟨z, hz, hzk⟩ := h.mp.to e he
    exact hk z (List.mem_of_getElem? hz) (hzk.trans hh)
  obtain ⟨HA, hHA⟩ : ∃ HA, HA = H.set om (some (.map ((ms ++ [(t.key, l.length, cl)]).map enV) (cl + 1))) := ⟨_, rfl⟩
  have nA : HA.next = H.next := by rw [hHA]; rfl
  obtain ⟨HB, hHB⟩ : ∃ HB, HB = (HA.set ol none).put (.row ((l ++ [t]).map tmV) 2) := ⟨_, rfl⟩
  have nB : HB.next = H.next + 1 := by rw [hHB, put_next, set_next, nA]
  obtain ⟨HC, hHC⟩ : ∃ HC, HC = HB.set o (some (.cells [.row H.next 0 (l.length + 1) 2, .map (some om)])) := ⟨_, rfl⟩
  have r0 := h.row
  have hll : (l ++ tl).length = l.length + tl.length := List.length_append
  have rA : HA.objs o = some (.cells [.row ol 0 l.length 2, .map (some om)]) := by rw [hHA, set_ne h.ne2, h.row]
  have gA : HA.objs ol = some (.row ((l ++ tl).map tmV) 2) := by rw [hHA, set_ne h.ne3, h.lst]
  have lo := h.lo
  have lol := h.lol
  have lom := h.lom
  have rB : HB.objs o = some (.cells [.row ol 0 l.length 2, .map (some om)]) := by rw [hHB, put_ne (by rw [set_next]; omega), set_ne h.ne1, rA]
  have hT : (HA.set ol none).put (.row (((l ++ tl).take l.length ++ [t]).map tmV) 2) = HB := by rw [hHB, List.take_left']; rfl
  have hM : H.set om (some (.map (ms.map enV ++ [(iv t.key, iv (l.length : Nat), cl)]) (cl + 1))) = HA := by rw [hHA, List.map_append]; rfl
  have hS : HB.set o (some (.cells (putCells [.row ol 0 l.length 2, .map (some om)] 0 [.row HA.next 0 (l.length + 1) 2]))) = HC := by rw [hHC, nA]; rfl
  refine ⟨HC, _, ?_, ⟨?_, ?_, ?_, by omega, h.ne2, by omega, by rw [hHC, set_next]; omega, by rw [hHC, set_next]; omega, by rw [hHC, set_next]; omega, h.mp.push hk⟩, ⟨by rw [hHC, set_next]; omega, fun q h1 h2 => ?_, fun q hq => ?_⟩⟩
  · refine Runs.toldH (fn := Try.f71) (n := 34) [(0, .val (.ptr o 0)), (1, .val (.iface 50 (tmV t)))] [(0, .gone 0), (1, .gone 0)] rfl Try.func71 rfl rfl (by kernel_rfl) rfl (by repeat' constructor) (by repeat' constructor) ?_
    repeat' (first
      | intro _
      | refine Ws ?_
      | (refine Wt ?_ ?_ <;> intro _ <;> try (exfalso; omega))
      | (refine Wu ?_ ?_ <;> intro _)
      | refine Wo.asrt Try.underlying50 (by intro s hs; cases hs) ?_
      | refine Wo.loadHc r0 ?_
      | refine Wo.loadHc rA ?_
      | refine Wo.lenH ?_
      | refine Wo.mapN h.map (find_not hms) hM ?_
      | refine Wo.app1H gA hT ?_
      | refine Wo.storeHc rB hS ?_
      | refine Wl.normalH rfl rfl
      | refine Wv ?_
      | refine Wz ?_
      | fail)
    rfl
  · rw [hHC, set_eq, List.length_append]; rfl
  · rw [hHC, set_ne (by omega), hHB, ← nA, ← set_next (o := ol) (x := none), put_eq, List.append_nil]
  · rw [hHC, set_ne h.ne2.symm, hHB, put_ne (by rw [set_next]; omega), set_ne h.ne3.symm, hHA, set_eq]
  · simp only [List.mem_cons, List.not_mem_nil, or_false, not_or] at h2
    rw [hHC, set_ne h2.1, hHB, put_ne (by rw [set_next]; omega), set_ne h2.2.1, hHA, set_ne h2.2.2]
  · simp only [List.mem_cons, List.not_mem_nil, or_false] at hq ⊢
    omega
theorem r_Push0 {H : Hp} {o om : Nat} {t : Tm} (h : Row0 H o om) :
    ∃ H' ms', Runs Try.prog pol 71 [.val (.ptr o 0), .val (.iface 50 (tmV t))] H ([], [], H') ∧ RowAt H' o H.next om [t] [] ms' 1 ∧ Step H H' [o, om] [o, H.next, om] := by
  obtain ⟨HA, hHA⟩ : ∃ HA, HA = H.set om (some (.map (([(t.key, 0, 0)] : List En).map enV) 1)) := ⟨_, rfl⟩
  have nA : HA.next = H.next := by rw [hHA]; rfl
  obtain ⟨HC, hHC⟩ : ∃ HC, HC = (HA.put (.row ([t].map tmV) 2)).set o (some (.cells [.row H.next 0 1 2, .map (some om)])) := ⟨_, rfl⟩
  have r0 := h.row
  have rA : HA.objs o = some (.cells [.nils, .map (some om)]) := by rw [hHA, set_ne h.ne2, h.row]
  have lo := h.lo
  have lom := h.lom
  have hM : H.set om (some (.map ([] ++ [(iv t.key, iv ((0 : Nat) : Int), 0)]) (0 + 1))) = HA := by rw [hHA]; rfl
  have hS : (HA.put (.row ([t].map tmV) 2)).set o (some (.cells (putCells [.nils, .map (some om)] 0 [.row HA.next 0 1 2]))) = HC := by rw [hHC, nA]; rfl
  have hz : MapOk [] 0 ([] : List Tm) := ⟨List.Pairwise.nil, fun e he => by simp at he, fun e he => by simp at he, fun q z hz => by simp at hz⟩
  refine ⟨HC, [(t.key, 0, 0)], ?_, ⟨?_, ?_, ?_, by omega, h.ne2, by omega, by rw [hHC, set_next, put_next]; omega, by rw [hHC, set_next, put_next]; omega, by rw [hHC, set_next, put_next]; omega, hz.push (t := t) (fun z hz => by simp at hz)⟩, ⟨by rw [hHC, set_next, put_next]; omega, fun q h1 h2 => ?_, fun q hq => ?_⟩⟩
  · refine Runs.toldH (fn := Try.f71) (n := 34) [(0, .val (.ptr o 0)), (1, .val (.iface 50 (tmV t)))] [(0, .gone 0), (1, .gone 0)] rfl Try.func71 rfl rfl (by kernel_rfl) rfl (by repeat' constructor) (by repeat' constructor) ?_
    repeat' (first
      | intro _
      | refine Ws ?_
      | (refine Wt ?_ ?_ <;> intro _ <;> try (exfalso; omega))
      | (refine Wu ?_ ?_ <;> intro _)
      | refine Wo.asrt Try.underlying50 (by intro s hs; cases hs) ?_
      | refine Wo.loadHc r0 ?_
      | refine Wo.loadHc rA ?_
      | refine Wo.mapN h.map rfl hM ?_
      | refine Wo.app1n (enc := tmV) (a := t) (fun _ => rfl) (fun _ => ?_)
      | refine Wo.storeHo rA (by omega) hS ?_
      | refine Wl.normalH rfl rfl
      | refine Wv ?_
      | refine Wz ?_
      | fail)
    rfl
  · rw [hHC, set_eq]; rfl
  · rw [hHC, set_ne (by omega), ← nA, put_eq]; rfl
  · rw [hHC, set_ne h.ne2.symm, put_ne (by omega), hHA, set_eq]
  · simp only [List.mem_cons, List.not_mem_nil, or_false, not_or] at h2
    rw [hHC, set_ne h2.1, put_ne (by omega), hHA, set_ne h2.2]
  · simp only [List.mem_cons, List.not_mem_nil, or_false] at hq ⊢
    omega
theorem r_Pop {H : Hp} {o ol om cl : Nat} {l tl : List Tm} {ms : List En} {t : Tm} (h : RowAt H o ol om (l ++ [t]) tl ms cl) (hn : l.length ≤ 1000000) :
    ∃ H' ms', Runs Try.prog pol 70 [.val (.ptr o 0)] H ([.val (.iface 50 (tmV t))], [], H') ∧ RowAt H' o ol om l (t :: tl) ms' cl ∧ Step H H' [o, ol, om] [o, ol, om] := by
  obtain ⟨m, b, hm, hok⟩ := h.mp.pop
  obtain ⟨HA, hHA⟩ : ∃ HA, HA = H.set o (some (.cells [.row ol 0 l.length 2, .map (some om)])) := ⟨_, rfl⟩
  obtain ⟨HB, hHB⟩ : ∃ HB, HB = HA.set om (some (.map ((ms.eraseIdx m).map enV) cl)) := ⟨_, rfl⟩
  have r0 := h.row
  have hl1 : (l ++ [t]).length = l.length + 1 := by simp
  have hl2 : (l ++ [t] ++ tl).length = l.length + 1 + tl.length := by simp; omega
  have g0 := h.lst
  have tt : (l ++ [t] ++ tl)[l.length]? = some t := by simp
  have hs : (((l ++ [t]).length : Nat) : Int) - 1 = (l.length : Nat) := by rw [hl1]; omega
  have rA : HA.objs o = some (.cells [.row ol 0 l.length 2, .map (some om)]) := by rw [hHA, set_eq]
  have hSA : H.set o (some (.cells (putCells [.row ol 0 (l ++ [t]).length 2, .map (some om)] 0 [.row ol 0 l.length 2]))) = HA := by rw [hHA]; rfl
  have mA : HA.objs om = some (.map (ms.map enV) cl) := by rw [hHA, set_ne h.ne2.symm, h.map]
  have f1 := (h.mp.pw.find hm).1
  have hE : HA.set om (some (.map ((ms.map enV).eraseIdx m) cl)) = HB := by
    rw [hHB]; congr 3
    rw [List.eraseIdx_eq_take_drop_succ, List.eraseIdx_eq_take_drop_succ, List.map_append, List.map_take, List.map_drop]
  refine ⟨HB, _, ?_, ⟨?_, ?_, ?_, h.ne1, h.ne2, h.ne3, by rw [hHB, hHA]; exact h.lo, by rw [hHB, hHA]; exact h.lol, by rw [hHB, hHA]; exact h.lom, hok⟩, ⟨by rw [hHB, hHA]; exact Nat.le_refl _, fun q h1 h2 => ?_, fun q hq => .inl hq⟩⟩
  · refine Runs.toldH (fn := Try.f70) (n := 38) [(0, .val (.ptr o 0))] [(0, .gone 0)] rfl Try.func70 rfl rfl (by kernel_rfl) rfl (by repeat' constructor) (by repeat' constructor) ?_
    repeat' (first
      | intro _
      | refine Wo.subTo hs ?_
      | refine Ws ?_
      | (refine Wt ?_ ?_ <;> intro _ <;> try (exfalso; omega))
      | (refine Wu ?_ ?_ <;> intro _)
      | refine Wo.loadHc r0 ?_
      | refine Wo.loadHc rA ?_
      | refine Wo.lenH ?_
      | refine Wo.idxHs ?_
      | refine Wo.loadHs (fo := 0) g0 tt ?_
      | refine Wo.cutH ?_
      | refine Wo.storeHc r0 hSA ?_
      | refine Wo.delS mA f1 hE ?_
      | refine Wo.mkI Try.underlying50 (by intro s hs; cases hs) ?_
      | refine Wl.retH rfl rfl
      | refine Wv ?_
      | refine Wz ?_
      | fail)
    rfl
  · rw [hHB, set_ne h.ne2, rA]
  · rw [hHB, set_ne h.ne3, hHA, set_ne h.ne1.symm, h.lst, List.append_assoc]; rfl
  · rw [hHB, set_eq]
  · simp only [List.mem_cons, List.not_mem_nil, or_false, not_or] at h2
    rw [hHB, set_ne h2.2.2, hHA, set_ne h2.1]
end Go.Vi.CYtmcojibgjibkdaa
