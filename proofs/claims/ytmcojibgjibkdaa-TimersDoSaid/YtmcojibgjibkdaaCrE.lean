/-
  A row of timers: places changed, the last one out, another one in.
-/
import Derived.Test.YtmcojibgjibkdaaCrD
namespace Go.Vi.CYtmcojibgjibkdaa
open Go.Vi Go.Proofs Go.Proofs.Ytmcojibgjibkdaa
set_option linter.unusedVariables false
set_option maxHeartbeats 8000000
set_option maxRecDepth 100000
set_option linter.unusedSimpArgs false

theorem RowAt.set {H : Hp} {o ol om : Nat} {l tl : List Tm} {ms ms' : List En} {cl : Nat} {l' : List Tm} (h : RowAt H o ol om l tl ms cl) (hl : l'.length = l.length) (hm : MapOk ms' cl l') :
    RowAt ((H.set ol (some (.row ((l' ++ tl).map tmV) 2))).set om (some (.map (ms'.map enV) cl))) o ol om l' tl ms' cl ∧ Same H ((H.set ol (some (.row ((l' ++ tl).map tmV) 2))).set om (some (.map (ms'.map enV) cl))) ol om := by
  refine ⟨⟨?_, ?_, ?_, h.ne1, h.ne2, h.ne3, h.lo, h.lol, h.lom, hm⟩, rfl, fun q h1 h2 => ?_⟩
  · rw [set_ne h.ne2, set_ne h.ne1, h.row, hl]
  · rw [set_ne h.ne3, set_eq]
  · rw [set_eq]
  · rw [set_ne h2, set_ne h1]
theorem set_set {H : Hp} {o : Nat} {x y : Option Obj} : (H.set o x).set o y = H.set o y := by
  unfold Hp.set
  congr 1
  funext i
  by_cases c : i = o
  · rw [if_pos c, if_pos c]
  · rw [if_neg c, if_neg c]
    exact if_neg c
theorem r_Swap {H : Hp} {o ol om cl i j : Nat} {l tl : List Tm} {ms : List En} {a b : Tm} (h : RowAt H o ol om l tl ms cl) (ha : l[i]? = some a) (hb : l[j]? = some b) :
    ∃ H' ms', Runs Try.prog pol 72 [.val (.ptr o 0), .val (iv i), .val (iv j)] H ([], [], H') ∧ RowAt H' o ol om ((l.set i b).set j a) tl ms' cl ∧ Same H H' ol om := by
  have hmp := h.mp.swap ha hb
  have hS := h.set (l' := (l.set i b).set j a) (by simp) hmp
  refine ⟨_, _, ?_, hS.1, hS.2⟩
  have hi := (List.getElem?_eq_some_iff.1 ha).1
  have hj := (List.getElem?_eq_some_iff.1 hb).1
  have ta := tl_at (tl := tl) ha
  have tb := tl_at (tl := tl) hb
  obtain ⟨m1, b1, e1⟩ := h.mp.at hb
  obtain ⟨m2, b2, e2⟩ := h.mp.at ha
  have f1 := h.mp.pw.find e1
  have s1 := set_same (H := (H.set ol (some (.row ((((l.set i b).set j a) ++ tl).map tmV) 2)))) (o := om) (x := some (.map (ms.map enV) cl)) (by rw [set_ne (Ne.symm h.ne3), h.map])
  have u1 := upd_modify h.mp.pw e1 (p := i)
  have pw2 : Apart (upd ms b.key i) := upd_apart h.mp.pw
  obtain ⟨p2, e3⟩ : ∃ p2, (upd ms b.key i)[m2]? = some (a.key, p2, b2) := by
    rw [upd_at, e2, Option.map_some]
    by_cases c : a.key = b.key
    · exact ⟨i, by rw [if_pos c]⟩
    · exact ⟨i, by rw [if_neg c]⟩
  have f2 := pw2.find e3
  have u2 := upd_modify pw2 e3 (p := j)
  have r0 := h.row
  have g0 := h.lst
  have q1 : (l.set i b ++ tl) = (l ++ tl).set i b := by rw [List.set_append_left _ _ hi]
  have q2 : ((l.set i b).set j a ++ tl) = ((l ++ tl).set i b).set j a := by rw [← q1, List.set_append_left _ _ (by simpa using hj)]
  have rA : ∀ x, (H.set ol x).objs o = some (.cells [.row ol 0 l.length 2, .map (some om)]) := fun x => by rw [set_ne h.ne1, r0]
  have gA : (H.set ol (some (.row (((l ++ tl).set i b).map tmV) 2))).objs ol = some (.row (((l ++ tl).set i b).map tmV) 2) := set_eq
  have gB : (H.set ol (some (.row ((((l ++ tl).set i b).set j a).map tmV) 2))).objs ol = some (.row ((((l ++ tl).set i b).set j a).map tmV) 2) := set_eq
  have mA : ∀ x, (H.set ol x).objs om = some (.map (ms.map enV) cl) := fun x => by rw [set_ne (Ne.symm h.ne3), h.map]
  have la : (((l ++ tl).set i b).set j a)[i]? = some b := by
    rw [swap_at ta tb]
    by_cases c : j = i
    · subst c; rw [if_pos rfl]; rw [ha] at hb; exact hb
    · rw [if_neg c, if_pos rfl]
  have lb : (((l ++ tl).set i b).set j a)[j]? = some a := by rw [swap_at ta tb, if_pos rfl]
  rw [q2]
  rw [q2] at s1
  obtain ⟨HA, hHA⟩ : ∃ HA, HA = H.set ol (some (.row ((((l ++ tl).set i b).set j a).map tmV) 2)) := ⟨_, rfl⟩
  rw [← hHA] at s1 gB ⊢
  have rB : HA.objs o = some (.cells [.row ol 0 l.length 2, .map (some om)]) := by rw [hHA, set_ne h.ne1, r0]
  have mB : HA.objs om = some (.map (ms.map enV) cl) := by rw [hHA, set_ne (Ne.symm h.ne3), h.map]
  have hE1 : HA.set om (some (.map ((ms.map enV).modify m1 fun f => (iv b.key, f.2.1, f.2.2)) cl)) = HA := by rw [same_modify e1]; exact s1
  obtain ⟨HB, hHB⟩ : ∃ HB, HB = HA.set om (some (.map ((upd ms b.key i).map enV) cl)) := ⟨_, rfl⟩
  have hT1 : HA.set om (some (.map ((ms.map enV).modify m1 fun f => (f.1, iv i, f.2.2)) cl)) = HB := by rw [u1, hHB]
  have mC : HB.objs om = some (.map ((upd ms b.key i).map enV) cl) := by rw [hHB, set_eq]
  have hE2 : HB.set om (some (.map (((upd ms b.key i).map enV).modify m2 fun f => (iv a.key, f.2.1, f.2.2)) cl)) = HB := by rw [same_modify e3]; exact set_same mC
  have hT2 : HB.set om (some (.map (((upd ms b.key i).map enV).modify m2 fun f => (f.1, iv j, f.2.2)) cl)) = HA.set om (some (.map ((upd (upd ms b.key i) a.key j).map enV) cl)) := by rw [u2, hHB, set_set]
  have n1 : (ms.map enV)[m1]? = some (enV (b.key, j, b1)) := by rw [List.getElem?_map, e1]; rfl
  have n2 : ((upd ms b.key i).map enV)[m2]? = some (enV (a.key, p2, b2)) := by rw [List.getElem?_map, e3]; rfl
  refine Runs.toldH (fn := Try.f72) (n := 62) [(0, .val (.ptr o 0)), (1, .val (iv i)), (2, .val (iv j))] [(0, .gone 0), (1, .gone 0), (2, .gone 0)] rfl Try.func72 rfl rfl (by kernel_rfl) rfl (by repeat' constructor) (by repeat' constructor) ?_
  repeat' (first
    | intro _
    | refine Ws ?_
    | (refine Wt ?_ ?_ <;> intro _ <;> try (exfalso; omega))
    | (refine Wu ?_ ?_ <;> intro _)
    | refine Wo.loadHc r0 ?_
    | refine Wo.loadHc rB ?_
    | refine Wo.idxHs ?_
    | refine Wo.loadHs (fo := 0) g0 ta ?_
    | refine Wo.loadHs (fo := 0) g0 tb ?_
    | refine Wo.storeHs g0 (pl := i) (by rw [List.length_append]; omega) rfl ?_
    | refine Wo.storeHs gA (pl := j) (by rw [List.length_set, List.length_append]; omega) (set_set.trans hHA.symm) ?_
    | refine Wo.loadHs (fo := 1) gB la ?_
    | refine Wo.loadHs (fo := 1) gB lb ?_
    | refine Wo.entS mB f1.1 n1 hE1 ?_
    | refine Wo.entStore mB f1.2 hT1 ?_
    | refine Wo.entS mC f2.1 n2 hE2 ?_
    | refine Wo.entStore mC f2.2 hT2 ?_
    | refine Wl.normalH rfl rfl
    | refine Wv ?_
    | refine Wz ?_
    | fail)
  rfl
end Go.Vi.CYtmcojibgjibkdaa
