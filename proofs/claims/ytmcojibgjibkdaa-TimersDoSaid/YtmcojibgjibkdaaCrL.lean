/-
  A clock: Go.
-/
import Derived.Test.YtmcojibgjibkdaaCrK
namespace Go.Vi.CYtmcojibgjibkdaa
open Go.Vi Go.Proofs Go.Proofs.Ytmcojibgjibkdaa
set_option linter.unusedVariables false
set_option maxHeartbeats 8000000
set_option maxRecDepth 100000
set_option linter.unusedSimpArgs false

def goR (out : List Int) : RV := bif out.isEmpty then .val .nils else .own (out.map iv) 1
theorem r_GoBad {H : Hp} {c : Nat} {now n : Int} {ts : List Tm} {S : List Nat} (h : Ck H c now ts S) (hn : nowOk now) (hb : badN now n) :
    Runs Try.prog pol 13 [.val (.ptr c 0), .val (iv n)] H ([.val .nils, .val (iv 3)], [], H) := by
  obtain ⟨o, S0, h1, _⟩ := h
  unfold nowOk at hn
  unfold badN at hb
  refine Runs.told (fn := Try.f13) (n := 68) [(0, .val (.ptr c 0)), (1, .val (iv n))] [(0, .gone 0), (1, .gone 0)] rfl Try.func13 rfl rfl (by kernel_rfl) rfl (by repeat' constructor) (by repeat' constructor) ?_
  repeat' (first
    | intro _
    | refine Ws ?_
    | (refine Wt ?_ ?_ <;> intro _ <;> try (exfalso; omega))
    | (refine Wu ?_ ?_ <;> intro _)
    | refine Wo.loadHc h1 ?_
    | refine Wv ?_
    | refine Wz ?_
    | fail)
  all_goals first
    | rfl
    | (exfalso; omega)
theorem Ck.now {H : Hp} {c o : Nat} {now : Int} (n : Int) {ts : List Tm} {S : List Nat} (h : Ck H c now ts S) (ho : H.objs c = some (.cells [iv now, .ptr o 0])) : Ck (H.set c (some (.cells [iv n, .ptr o 0]))) c n ts S ∧ Step H (H.set c (some (.cells [iv n, .ptr o 0]))) S S := by
  obtain ⟨o', S0, h1, h2, h3, h4, rfl⟩ := h
  rw [ho] at h1
  have : o = o' := by injection h1 with e; injection e with e; injection e with e1 e2; injection e2 with e3 e4; injection e3
  subst this
  refine ⟨⟨o, S0, set_eq, h2, h3, h4.keep ⟨Nat.le_refl _, fun q hq => set_ne (fun e => h2 (e ▸ hq))⟩, rfl⟩, Nat.le_refl _, fun q q1 q2 => set_ne (fun e => q2 (e ▸ List.mem_cons_self ..)), fun q hq => .inl hq⟩
theorem Ck.pop {H : Hp} {c : Nat} {now : Int} {t : Tm} {ts : List Tm} {S : List Nat} (h : Ck H c now (t :: ts) S) (hs : Srt (t :: ts)) (hlen : ts.length < 1000000) :
    ∃ o H', H.objs c = some (.cells [iv now, .ptr o 0]) ∧ Runs Try.prog pol 23 [.val (hV o)] H ([.val (.iface 50 (tmV t))], [], H') ∧ Ck H' c now ts S ∧ Step H H' S S := by
  obtain ⟨o, S0, h1, h2, h3, h4, rfl⟩ := h
  obtain ⟨H', hP, hR, hS⟩ := r_hPop h4 hs.head hlen
  obtain ⟨r1, r2⟩ := Ck.rowed h1 h2 h3 hR hS
  exact ⟨o, H', h1, hP, r1, r2⟩
/-- what First tells -/
def Fst (ts : List Tm) (t : Tm) (ok : Bool) : Prop := (ts = [] ∧ ok = false) ∨ (∃ r, ts = t :: r ∧ ok = true)
theorem r_First {H : Hp} {c : Nat} {now : Int} {ts : List Tm} {S : List Nat} (h : Ck H c now ts S) (hs : Srt ts) : ∃ t ok, Runs Try.prog pol 19 [.val (.ptr c 0)] H ([.val (tmV t), .val (.bool ok)], [], H) ∧ Fst ts t ok := by
  cases ts with
  | nil => exact ⟨_, _, r_First0 h, .inl ⟨rfl, rfl⟩⟩
  | cons t r => exact ⟨t, true, r_First1 h hs.head, .inr ⟨r, rfl, rfl⟩⟩
theorem r_Go {H : Hp} {c : Nat} {now n : Int} {ts : List Tm} {S : List Nat} (h : Ck H c now ts S) (hn : nowOk now) (hb : ¬ badN now n) (hs : Srt ts) (hlen : ts.length < 1000000) :
    ∃ H' S', Runs Try.prog pol 13 [.val (.ptr c 0), .val (iv n)] H ([goR (goT (now + n) ts).1, .val (iv 0)], [], H') ∧ Ck H' c (now + n) (goT (now + n) ts).2 S' ∧ Step H H' S S' := by
  suffices hE : RunsE Try.prog pol 13 [.val (.ptr c 0), .val (iv n)] H (fun r H' => r = [goR (goT (now + n) ts).1, .val (iv 0)] ∧ ∃ S', Ck H' c (now + n) (goT (now + n) ts).2 S' ∧ Step H H' S S') by
    obtain ⟨r, H', h1, rfl, S', h2⟩ := hE
    exact ⟨H', S', h1, h2⟩
  obtain ⟨o, S0, h1, _⟩ := id h
  unfold nowOk at hn
  unfold badN at hb
  obtain ⟨HA, hHA⟩ : ∃ HA, HA = H.set c (some (.cells [iv (now + n), .ptr o 0])) := ⟨_, rfl⟩
  obtain ⟨hA1, hA2⟩ := h.now (now + n) h1
  rw [← hHA] at hA1 hA2
  have hS : H.set c (some (.cells (putCells [iv now, .ptr o 0] 0 [iv (now + n)]))) = HA := by rw [hHA]; rfl
  obtain ⟨t0, ok0, F0, f0⟩ := r_First hA1 hs
  refine Runs.toldE (fn := Try.f13) (n := 68) [(0, .val (.ptr c 0)), (1, .val (iv n))] [(0, .gone 0), (1, .gone 0)] rfl Try.func13 rfl rfl (by kernel_rfl) rfl (by repeat' constructor) (by repeat' constructor) ?_
  refine Wx.tellT 65 (.gone 0) ?_
  repeat' (first
    | intro _
    | refine Ws ?_
    | (refine Wt ?_ ?_ <;> intro _ <;> try (exfalso; omega))
    | (refine Wu ?_ ?_ <;> intro _)
    | refine Wo.loadHc h1 ?_
    | refine Wo.storeHc h1 hS ?_
    | refine Wo.bind ?_
    | refine Wo.callI F0 ?_
    | refine Wv ?_
    | refine Wz ?_
    | fail)
  rename_i gb0
  refine Wx.loopH (fun (K, S1, ts1, out, e, g, gb, t, ok, m) => K) [0, 4, 5, 7, 67] [0, 1, 37] (fun (K, S1, ts1, out, e, g, gb, t, ok, m) => [(6, bif e then .val .nils else .own 65 g 0 m 1), (8, .loc 8 gb 0), (9, .val (.bool ok))]) (fun (K, S1, ts1, out, e, g, gb, t, ok, m) => [(8, .box gb [.val (iv t.due), .val (iv t.key)] true), (65, bif e then .gone g else .row g (out.map iv) 1 false)]) (fun (K, S1, ts1, out, e, g, gb, t, ok, m) => Ck K c (now + n) ts1 S1 ∧ Step H K S S1 ∧ out ++ (goT (now + n) ts1).1 = (goT (now + n) ts).1 ∧ (goT (now + n) ts1).2 = (goT (now + n) ts).2 ∧ e = out.isEmpty ∧ Srt ts1 ∧ Fst ts1 t ok ∧ out.length + ts1.length = ts.length ∧ m = out.length) (fun (K, S1, ts1, out, e, g, gb, t, ok, m) => ts1.length) (HA, S, ts, [], true, 0, gb0, t0, ok0, 0) ⟨hA1, hA2, rfl, rfl, rfl, hs, f0, by simp, rfl⟩ (fun a x y hG => ?_)
  obtain ⟨K, S1, ts1, out, e, g, gb, t, ok, m⟩ := a
  obtain ⟨hC, hT, hO, hR, he, hs1, hF, hl, hm⟩ := hG
  dsimp only [List.cons_append, List.nil_append]
  subst hm
  have fin : (goT (now + n) ts1).1 = [] → (goT (now + n) ts1).2 = ts1 → [goR out, RV.val (iv 0)] = [goR (goT (now + n) ts).1, RV.val (iv 0)] ∧ ∃ S', Ck K c (now + n) (goT (now + n) ts).2 S' ∧ Step H K S S' := fun e1 e2 => by
    rw [← hO, e1, List.append_nil, ← hR, e2]
    exact ⟨rfl, S1, hC, hT⟩
  have stop : (ts1 = [] ∨ ∃ r, ts1 = t :: r ∧ ¬ t.due ≤ now + n) → [goR out, RV.val (iv 0)] = [goR (goT (now + n) ts).1, RV.val (iv 0)] ∧ ∃ S', Ck K c (now + n) (goT (now + n) ts).2 S' ∧ Step H K S S' := fun h => by
    rcases h with rfl | ⟨r, rfl, h⟩
    · exact fin rfl rfl
    · exact fin (by unfold goT; rw [if_neg h]) (by unfold goT; rw [if_neg h])
  rcases hF with ⟨rfl, rfl⟩ | ⟨r, rfl, rfl⟩
  · have F := stop (.inl rfl)
    cases out with
    | nil =>
      subst he
      dsimp only [List.isEmpty, cond]
      repeat' (first
        | intro _
        | refine Ws ?_
        | (refine Wt ?_ ?_ <;> intro _ <;> try (exfalso; omega))
        | (refine Wu ?_ ?_ <;> intro _)
        | refine Wv ?_
        | refine Wz ?_
        | fail)
      exact Wl.retRE F
    | cons a out =>
      subst he
      dsimp only [List.isEmpty, cond]
      repeat' (first
        | intro _
        | refine Ws ?_
        | (refine Wt ?_ ?_ <;> intro _ <;> try (exfalso; omega))
        | (refine Wu ?_ ?_ <;> intro _)
        | refine Wv ?_
        | refine Wz ?_
        | fail)
      exact Wl.retRE F
  · obtain ⟨o1, c1, _⟩ := id hC
    by_cases hd : t.due ≤ now + n
    · obtain ⟨o2, K2, q1, hP, hC2, hS2⟩ := hC.pop hs1 (by simp only [List.length_cons] at hl; omega)
      obtain ⟨t2, ok2, F2, f2⟩ := r_First hC2 hs1.tail
      have hO2 : (out ++ [t.key]) ++ (goT (now + n) r).1 = (goT (now + n) ts).1 := by
        rw [← hO, List.append_assoc]; congr 1
        rw [goT, if_pos hd]; rfl
      have hR2 : (goT (now + n) r).2 = (goT (now + n) ts).2 := by
        rw [← hR, goT, if_pos hd]
      cases out with
      | nil =>
        subst he
        dsimp only [List.isEmpty, cond]
        repeat' (first
          | intro _
          | refine Ws ?_
          | (refine Wt ?_ ?_ <;> intro _ <;> try (exfalso; omega))
          | (refine Wu ?_ ?_ <;> intro _)
          | refine Wo.loadHc q1 ?_
          | refine Wo.mkI Try.underlying54 (by intro s hs; cases hs) ?_
          | refine Wo.callI hP ?_
          | refine Wo.app1n (enc := iv) (fun _ => rfl) (fun _ => ?_)
          | refine Wo.callI F2 ?_
          | refine Wv ?_
          | refine Wz ?_
          | fail)
        exact RdH (K2, S1, r, [t.key], false, _, _, t2, ok2, 1) (by show r.length < (t :: r).length; simp) ⟨hC2, hT.trans hS2, hO2, hR2, rfl, hs1.tail, f2, (by simp only [List.length_cons, List.length_nil] at hl ⊢; omega), rfl⟩ rfl
      | cons a out =>
        subst he
        dsimp only [List.isEmpty, cond]
        repeat' (first
          | intro _
          | refine Ws ?_
          | (refine Wt ?_ ?_ <;> intro _ <;> try (exfalso; omega))
          | (refine Wu ?_ ?_ <;> intro _)
          | refine Wo.loadHc q1 ?_
          | refine Wo.mkI Try.underlying54 (by intro s hs; cases hs) ?_
          | refine Wo.callI hP ?_
          | refine Wo.app1 (enc := iv) (fun _ => ?_)
          | refine Wo.callI F2 ?_
          | refine Wv ?_
          | refine Wz ?_
          | fail)
        refine RdH (K2, S1, r, (a :: out).take (a :: out).length ++ [t.key], false, _, _, t2, ok2, (a :: out).length + 1) (by show r.length < (t :: r).length; simp) ⟨hC2, hT.trans hS2, by rw [List.take_length]; exact hO2, hR2, by rw [List.take_length]; rfl, hs1.tail, f2, ?_, ?_⟩ rfl
        · rw [List.take_length]; simp only [List.length_cons, List.length_append, List.length_nil] at hl ⊢; omega
        · rw [List.take_length]; simp
    · have F := stop (.inr ⟨r, rfl, hd⟩)
      obtain ⟨o2, S2, q1, _⟩ := id hC
      cases out with
      | nil =>
        subst he
        dsimp only [List.isEmpty, cond]
        repeat' (first
          | intro _
          | refine Ws ?_
          | (refine Wt ?_ ?_ <;> intro _ <;> try (exfalso; omega))
          | (refine Wu ?_ ?_ <;> intro _)
          | refine Wo.loadHc q1 ?_
          | refine Wv ?_
          | refine Wz ?_
          | fail)
        exact Wl.retRE F
      | cons a out =>
        subst he
        dsimp only [List.isEmpty, cond]
        repeat' (first
          | intro _
          | refine Ws ?_
          | (refine Wt ?_ ?_ <;> intro _ <;> try (exfalso; omega))
          | (refine Wu ?_ ?_ <;> intro _)
          | refine Wo.loadHc q1 ?_
          | refine Wv ?_
          | refine Wz ?_
          | fail)
        exact Wl.retRE F
end Go.Vi.CYtmcojibgjibkdaa
