/-
  What becomes of a command: the reference.
-/
import Derived.Test.YthalmafpobmdoaaCyP
import Derived.Test.YthalmafpobmdoaaCyL
namespace Go.Vi.CYthalmafpobmdoaa
open Go.Vi Go.Proofs Go.Proofs.Ythalmafpobmdoaa
set_option linter.unusedVariables false
set_option maxHeartbeats 16000000
set_option maxRecDepth 100000
set_option linter.unusedSimpArgs false

theorem r_RDecide (t : Tb) (s : Stt) (c : Cm) (ht : t.ok) (hs : s.ok) (hc : c.ok) (hR : rightB t = true) (H : Hp) : Runs Try.prog pol 11 [.val (tbV t), .val (sttV s), .val (cmV c)] H ([.val (slV evV (decS t s c).1), .val (iv (decS t s c).2)], [], H) := by
  have hsv := hs.2.2.1
  have hca := hc.2.2.2.2.1.1
  by_cases hb : mayS t s = true ∧ 0 ≤ c.rule ∧ c.rule < t.rules.list.length
  · obtain ⟨hmay, h0, hb1⟩ := hb
    obtain ⟨r, hr⟩ := at_some (show c.rule.toNat < t.rules.list.length by omega)
    have hro := ht.2.2.2.2 r (List.mem_of_getElem? hr)
    have hst8 := right_states (by rw [← rightB_eq]; exact hR)
    have hvl := mayS_len hmay
    have hns := right_nsteps hR hr
    have hrg := hro.2.2.2.1
    have hrg1 := hrg.1
    unfold Sl.ok at hrg1
    have hRf : refS t s c = if (c.args.list.length : Int) ≠ r.args ∨ valuesOk c.args.list = false then 2 else if for' t c.rule s.at' = false then 3 else if 0 ≤ c.exp ∧ c.exp ≠ s.ver then 4 else gdsS s.vars.list c.args.list r.guards.list := by
      unfold refS; rw [if_neg (by simp [hmay]), if_pos h0, hr]
    have hD1 : ∀ n : Int, refS t s c = n → ¬ n = 0 → decS t s c = (none, n) := fun n hn hz => by
      unfold decS; rw [if_neg (by simp [hR]), if_pos (by rw [hn]; exact hz), hn]
    have hD0 : refS t s c = 0 → decS t s c = match stepsAt r.steps.list s.at' s.vars.list c.args.list r.steps.list.length with
        | some (_, _, es) => (some es, 0)
        | none => (none, 5) := fun hz => by
      unfold decS; rw [if_neg (by simp [hR]), if_neg (by simp [hz]), if_pos h0, hr]; rfl
    refine Runs.told (fn := Try.f11) (n := 179) [(0, .val (tbV t)), (1, .val (sttV s)), (2, .val (cmV c))] [(0, .gone 0), (1, .gone 0), (2, .gone 0)] rfl Try.func11 rfl rfl (by kernel_rfl) rfl (by repeat' constructor) (by repeat' constructor) ?_
    repeat' (first
      | intro _
      | refine Ws ?_
      | (refine Wt ?_ ?_ <;> intro _ <;> try (exfalso; omega))
      | (refine Wu ?_ ?_ <;> intro _)
      | refine Wo.callB (r_R7Right _ _ ht hs) (fun _ => ?_) (fun _ => ?_)
      | refine Wo.callB (r_all7 _ hca) (fun _ => ?_) (fun _ => ?_)
      | refine Wo.callB (r_RFor t _ _ ht) (fun _ => ?_) (fun _ => ?_)
      | refine Wv ?_
      | refine Wz ?_
      | fail)
    all_goals first
      | (exfalso; have h : mayS t s = false := by assumption
         rw [hmay] at h; cases h; done)
      | (exfalso; omega)
      | (rw [hD1 2 (by rw [hRf]; exact if_pos (by first | (exact Or.inl (by assumption)) | (exact Or.inr (by assumption)))) (by decide)]; rfl)
      | (rw [hD1 3 (by rw [hRf, if_neg (by simp [*]), if_pos (by assumption)]) (by decide)]; rfl)
      | (rw [hD1 4 (by rw [hRf, if_neg (by simp [*]), if_neg (by simp [*]), if_pos (by constructor <;> assumption)]) (by decide)]; rfl)
      | skip
    all_goals
      have hRg : refS t s c = gdsS s.vars.list c.args.list r.guards.list := by rw [hRf, if_neg (by simp [*]), if_neg (by simp [*]), if_neg (by simp [*])]
      refine Wx.loop [4, 5, 8, 12, 13, 14, 15, 16, 17, 18, 19, 101, 102, 103, 104, 105, 106, 107, 108, 109, 110, 111, 112, 113, 114, 115, 116, 117, 118, 119, 120, 121, 122, 123, 124, 125, 126, 127, 128, 129, 130, 131, 132, 133, 134, 135, 136, 137, 138, 139, 140, 141, 142, 143, 144, 145, 146, 147, 148, 149, 150, 151, 152, 153, 154, 155, 156, 157, 158, 159, 160, 161, 162, 163, 164, 165, 166, 167, 168, 169, 170, 171, 172, 173, 174, 175, 176, 177, 178] [0, 1, 2, 3, 4, 5, 8, 22, 50, 58, 112, 114, 140, 176, 177] (fun k => [(9, .val (iv (k : Nat)))]) (fun k => []) (fun k => k ≤ r.guards.list.length ∧ ∀ j, j < k → gdHit s.vars.list c.args.list r.guards.list j = none) (fun k => r.guards.list.length - k) 0 ⟨Nat.zero_le _, fun _ h => by omega⟩ (fun k x y hG => ?_)
      obtain ⟨h1, h2⟩ := hG
      dsimp only [List.cons_append, List.nil_append]
      rcases Nat.lt_or_ge k r.guards.list.length with hk | hk
      · obtain ⟨z, hz⟩ := at_some hk
        have hzt := (hrg.2 z (List.mem_of_getElem? hz)).2.1
        have hcode := right_guard hR hr k z hz
        repeat' (first
          | intro _
          | refine Ws ?_
          | (refine Wt ?_ ?_ <;> intro _ <;> try (exfalso; omega))
          | (refine Wu ?_ ?_ <;> intro _)
          | refine Wo.call0 (r_REval _ _ _ hzt hsv hca) ?_
          | refine Wv ?_
          | refine Wz ?_
          | fail)
        · rename_i he hn
          have hg : gdS s.vars.list c.args.list z = z.code := by unfold gdS; rw [if_neg (by simp [he]), if_pos hn]
          have hsc := scan_found (p := gdHit s.vars.list c.args.list r.guards.list) (b := z.code) h2 (by simp only [gdHit, hz, hg]; rw [if_neg (by omega)]) (n := r.guards.list.length) (by omega)
          rw [hD1 z.code (by rw [hRg]; unfold gdsS; rw [hsc]) (by omega)]; rfl
        · rename_i he hn
          exact Rd (k + 1) (by omega) ⟨by omega, none_succ h2 (by simp only [gdHit, hz]; rw [if_pos (by unfold gdS; rw [if_neg (by simp [he]), if_neg hn])])⟩
        · rename_i he
          have hg : gdS s.vars.list c.args.list z = 5 := by unfold gdS; rw [if_pos he]
          have hsc := scan_found (p := gdHit s.vars.list c.args.list r.guards.list) (b := 5) h2 (by simp only [gdHit, hz, hg]; rw [if_neg (by decide)]) (n := r.guards.list.length) (by omega)
          rw [hD1 5 (by rw [hRg]; unfold gdsS; rw [hsc]) (by decide)]; rfl
      · have hsc := scan_none (p := gdHit s.vars.list c.args.list r.guards.list) (n := r.guards.list.length) (fun j hj => h2 j (by omega))
        have hD := hD0 (by rw [hRg]; unfold gdsS; rw [hsc])
        repeat' (first
          | intro _
          | refine Ws ?_
          | (refine Wt ?_ ?_ <;> intro _ <;> try (exfalso; omega))
          | (refine Wu ?_ ?_ <;> intro _)
          | refine Wv ?_
          | refine Wz ?_
          | fail)
        refine Wx.loop [5, 8, 178] [1, 2, 3, 4, 5, 8, 22, 50, 58, 88] (fun (n, a, v, e, g, es, m) => [(15, .val (iv (n : Nat))), (13, .val (iv a)), (14, .val (slV iv v)), (12, bif e then .val .nils else .own 177 g 0 m 2)]) (fun (n, a, v, e, g, es, m) => [((bif e then 0 else 177), bif e then .gone 0 else .row g (es.map evV) 2 false)]) (fun (n, a, v, e, g, es, m) => (n ≤ r.steps.list.length ∧ m = es.length) ∧ stepsAt r.steps.list s.at' s.vars.list c.args.list n = some (a, Sl.list v, es) ∧ (e = true → es = []) ∧ (e = false → es ≠ []) ∧ (Sl.list v).length = s.vars.list.length) (fun (n, a, v, e, g, es, m) => r.steps.list.length - n) (0, s.at', (s.vars : Sl Int), true, 0, ([] : List Ev), 0) ⟨⟨Nat.zero_le _, rfl⟩, rfl, fun _ => rfl, fun h => (by cases h), rfl⟩ (fun a x y hG => ?_)
        obtain ⟨n, a, v, e, g, es, m⟩ := a
        obtain ⟨q1', q2, q3, q4, q5⟩ := hG
        dsimp only [List.cons_append, List.nil_append]
        obtain ⟨q1, hm⟩ := q1'
        subst hm
        have hel := stepsAt_len q2
        rcases Nat.lt_or_ge n r.steps.list.length with hn | hn
        · obtain ⟨p, hp⟩ := at_some hn
          have hpo := hro.2.2.2.2.2 p (List.mem_of_getElem? hp)
          have hpl := hpo.1.1
          unfold Sl.ok at hpl
          have hsr : ∀ (j : Nat) (y : St), p.sets.list[j]? = some y → 0 ≤ y.var ∧ y.var < (Sl.list v).length := fun j y hy => by
            have := (right_set hR hr n p hp).2 j y hy
            omega
          have hvo : Sl.ok v := by unfold Sl.ok; omega
          have hss : ∀ (nx : List Int) (b : Int), setAt p.sets.list (Sl.list v) c.args.list p.sets.list.length = some nx → b = (if 0 ≤ p.to then p.to else a) → stepsAt r.steps.list s.at' s.vars.list c.args.list (n + 1) = some (b, nx, es ++ [⟨b, some nx⟩]) := fun nx b w hb => by
            rw [stepsAt_succ q2 hp]; unfold stepS; rw [w, hb]
          cases e <;> dsimp only [cond]
          all_goals
            repeat' (first
              | intro _
              | refine Ws ?_
              | (refine Wt ?_ ?_ <;> intro _ <;> try (exfalso; omega))
              | (refine Wu ?_ ?_ <;> intro _)
              | refine Wv ?_
              | refine Wz ?_
              | fail)
            refine Wo.appF (fun g2 _ hne => ?_) (fun hem => ?_)
            · repeat' (first
                | intro _
                | refine Ws ?_
                | (refine Wt ?_ ?_ <;> intro _ <;> try (exfalso; omega))
                | (refine Wu ?_ ?_ <;> intro _)
                | refine Wv ?_
                | refine Wz ?_
                | fail)
              refine Wx.loop [5, 8, 12, 13, 14, 15, 16, 105, 106, 107, 108, 109, 110, 111, 112, 113, 114, 158, 159, 160, 161, 162, 163, 164, 165, 166, 167, 168, 169, 170, 171, 172, 173, 174, 175, 176, 177, 178] [0, 1, 2, 3, 4, 5, 8, 22, 50, 58, 88, 112, 176, 177] (fun (j, nx) => [(17, .val (iv (j : Nat)))]) (fun (j, nx) => [(114, .row g2 (nx.map iv) 1 false)]) (fun (j, nx) => j ≤ p.sets.list.length ∧ setAt p.sets.list (Sl.list v) c.args.list j = some nx) (fun (j, nx) => p.sets.list.length - j) (0, Sl.list v) ⟨Nat.zero_le _, rfl⟩ (fun a x y hG => ?_)
              obtain ⟨j, nx⟩ := a
              obtain ⟨w1, w2⟩ := hG
              dsimp only [List.cons_append, List.nil_append]
              have hnl := setAt_len w2
              rcases Nat.lt_or_ge j p.sets.list.length with hj | hj
              · obtain ⟨y, hy⟩ := at_some hj
                have hyo := (hpo.1.2 y (List.mem_of_getElem? hy)).2.1
                have hyv := hsr j y hy
                repeat' (first
                  | intro _
                  | refine Ws ?_
                  | (refine Wt ?_ ?_ <;> intro _ <;> try (exfalso; omega))
                  | (refine Wu ?_ ?_ <;> intro _)
                  | refine Wo.call0 (r_REval _ _ _ hyo hvo hca) ?_
                  | refine Wv ?_
                  | refine Wz ?_
                  | fail)
                · rename_i he
                  exact Rd (j + 1, nx.set (0 + y.var.toNat) (eEval y.value.list (Sl.list v) c.args.list).1) (by dsimp only; omega) ⟨by dsimp only; omega, by dsimp only; rw [setAt, w2, hy, Nat.zero_add]; exact if_pos he⟩
                · rename_i he
                  have hno : setAt p.sets.list (Sl.list v) c.args.list (j + 1) = none := by rw [setAt, w2, hy]; exact if_neg he
                  have hsz : stepS p a (Sl.list v) c.args.list = none := by unfold stepS; rw [setAt_none hno _ (by omega)]
                  have hsn : stepsAt r.steps.list s.at' s.vars.list c.args.list (n + 1) = none := by rw [stepsAt_succ q2 hp, hsz]
                  rw [hD, stepsAt_none hsn _ (by omega)]; rfl
              · have hjj : j = p.sets.list.length := by omega
                subst hjj
                repeat' (first
                  | intro _
                  | refine Ws ?_
                  | (refine Wt ?_ ?_ <;> intro _ <;> try (exfalso; omega))
                  | (refine Wu ?_ ?_ <;> intro _)
                  | refine Wo.app1 (enc := evV) (a := ⟨_, some nx⟩) (fun g4 => ?_) (hnew := okEv)
                  | refine Wo.app1n (enc := evV) (a := ⟨_, some nx⟩) okEv (fun g4 => ?_)
                  | refine Wv ?_
                  | refine Wz ?_
                  | fail)
                all_goals first
                  | (have hto : p.to ≥ 0 := by assumption
                     have hf := hss nx p.to w2 (if_pos hto).symm
                     first
                       | exact Rd (n + 1, p.to, some nx, false, _, es.take es.length ++ [⟨p.to, some nx⟩], es.length + 1) (by dsimp only; omega) ⟨⟨by dsimp only; omega, by simp⟩, by rw [List.take_length]; exact hf, (fun h => by cases h), (fun _ => by simp), by show nx.length = _; omega⟩
                       | exact Rd (n + 1, p.to, some nx, false, _, [⟨p.to, some nx⟩], 1) (by dsimp only; omega) ⟨⟨by dsimp only; omega, rfl⟩, by rw [q3 rfl] at hf; exact hf, (fun h => by cases h), (fun _ => by simp), by show nx.length = _; omega⟩)
                  | (have hto : ¬ p.to ≥ 0 := by assumption
                     have hf := hss nx a w2 (if_neg hto).symm
                     first
                       | exact Rd (n + 1, a, some nx, false, _, es.take es.length ++ [⟨a, some nx⟩], es.length + 1) (by dsimp only; omega) ⟨⟨by dsimp only; omega, by simp⟩, by rw [List.take_length]; exact hf, (fun h => by cases h), (fun _ => by simp), by show nx.length = _; omega⟩
                       | exact Rd (n + 1, a, some nx, false, _, [⟨a, some nx⟩], 1) (by dsimp only; omega) ⟨⟨by dsimp only; omega, rfl⟩, by rw [q3 rfl] at hf; exact hf, (fun h => by cases h), (fun _ => by simp), by show nx.length = _; omega⟩)
                  | trace_state
            · have hpe : p.sets.list.length = 0 := by
                rcases Nat.lt_or_ge 0 p.sets.list.length with h | h
                · obtain ⟨y, hy⟩ := at_some h
                  have := hsr 0 y hy
                  rw [hem] at this
                  simp at this
                  omega
                · omega
              have w2 : setAt p.sets.list (Sl.list v) c.args.list p.sets.list.length = some [] := by rw [hpe, setAt, hem]
              have hv0 : ([] : List Int).length = s.vars.list.length := by rw [← q5, hem]
              repeat' (first
                | intro _
                | refine Ws ?_
                | (refine Wt ?_ ?_ <;> intro _ <;> try (exfalso; omega))
                | (refine Wu ?_ ?_ <;> intro _)
                | refine Wv ?_
                | refine Wz ?_
                | fail)
              refine Wx.loop [5, 8, 12, 13, 14, 15, 16, 105, 106, 107, 108, 109, 110, 111, 112, 113, 114, 158, 159, 160, 161, 162, 163, 164, 165, 166, 167, 168, 169, 170, 171, 172, 173, 174, 175, 176, 177, 178] [0, 1, 2, 3, 4, 5, 8, 22, 50, 58, 88, 112, 114, 176, 177] (fun (j, z) => [(17, .val (iv 0))]) (fun (j, z) => []) (fun (j, z) => j = 0 ∧ z = 0) (fun (j, z) => 0) (0, 0) ⟨rfl, rfl⟩ (fun a x y hG => ?_)
              obtain ⟨j, z⟩ := a
              obtain ⟨z1, z2⟩ := hG
              dsimp only [List.cons_append, List.nil_append]
              repeat' (first
                | intro _
                | refine Ws ?_
                | (refine Wt ?_ ?_ <;> intro _ <;> try (exfalso; omega))
                | (refine Wu ?_ ?_ <;> intro _)
                | refine Wo.app1 (enc := evV) (a := ⟨_, some []⟩) (fun g4 => ?_) (hnew := okEv)
                | refine Wo.app1n (enc := evV) (a := ⟨_, some []⟩) okEv (fun g4 => ?_)
                | refine Wv ?_
                | refine Wz ?_
                | fail)
              all_goals first
                | (have hto : p.to ≥ 0 := by assumption
                   have hf := hss [] p.to w2 (if_pos hto).symm
                   first
                     | exact Rd (n + 1, p.to, some [], false, _, es.take es.length ++ [⟨p.to, some []⟩], es.length + 1) (by dsimp only; omega) ⟨⟨by dsimp only; omega, by simp⟩, by rw [List.take_length]; exact hf, (fun h => by cases h), (fun _ => by simp), hv0⟩
                     | exact Rd (n + 1, p.to, some [], false, _, [⟨p.to, some []⟩], 1) (by dsimp only; omega) ⟨⟨by dsimp only; omega, rfl⟩, by rw [q3 rfl] at hf; exact hf, (fun h => by cases h), (fun _ => by simp), hv0⟩)
                | (have hto : ¬ p.to ≥ 0 := by assumption
                   have hf := hss [] a w2 (if_neg hto).symm
                   first
                     | exact Rd (n + 1, a, some [], false, _, es.take es.length ++ [⟨a, some []⟩], es.length + 1) (by dsimp only; omega) ⟨⟨by dsimp only; omega, by simp⟩, by rw [List.take_length]; exact hf, (fun h => by cases h), (fun _ => by simp), hv0⟩
                     | exact Rd (n + 1, a, some [], false, _, [⟨a, some []⟩], 1) (by dsimp only; omega) ⟨⟨by dsimp only; omega, rfl⟩, by rw [q3 rfl] at hf; exact hf, (fun h => by cases h), (fun _ => by simp), hv0⟩)
                | trace_state
        · have hnn : n = r.steps.list.length := by omega
          subst hnn
          cases e <;> dsimp only [cond]
          · repeat' (first
              | intro _
              | refine Ws ?_
              | (refine Wt ?_ ?_ <;> intro _ <;> try (exfalso; omega))
              | (refine Wu ?_ ?_ <;> intro _)
              | refine Wv ?_
              | refine Wz ?_
              | fail)
            refine Wl.retF ?_
            rw [hD, q2]; rfl
          · exfalso
            have := q3 rfl
            rw [this] at hel
            simp at hel
            omega
  · have hRf : refS t s c = if mayS t s = false then 3 else 1 := by
      unfold refS
      by_cases hm : mayS t s = false
      · rw [if_pos hm, if_pos hm]
      · rw [if_neg hm, if_neg hm]
        have hm : mayS t s = true := by simpa using hm
        by_cases h0 : 0 ≤ c.rule
        · have hlt : ¬ c.rule < t.rules.list.length := fun h => hb ⟨hm, h0, h⟩
          rw [if_pos h0, List.getElem?_eq_none (by omega)]
        · rw [if_neg h0]
    have hD1 : decS t s c = (none, if mayS t s = false then 3 else 1) := by
      unfold decS
      rw [if_neg (by simp [hR]), if_pos (by rw [hRf]; split <;> decide), hRf]
    rw [hD1]
    refine Runs.told (fn := Try.f11) (n := 179) [(0, .val (tbV t)), (1, .val (sttV s)), (2, .val (cmV c))] [(0, .gone 0), (1, .gone 0), (2, .gone 0)] rfl Try.func11 rfl rfl (by kernel_rfl) rfl (by repeat' constructor) (by repeat' constructor) ?_
    repeat' (first
      | intro _
      | refine Ws ?_
      | (refine Wt ?_ ?_ <;> intro _ <;> try (exfalso; omega))
      | (refine Wu ?_ ?_ <;> intro _)
      | refine Wo.callB (r_R7Right _ _ ht hs) (fun _ => ?_) (fun _ => ?_)
      | refine Wv ?_
      | refine Wz ?_
      | fail)
    all_goals first
      | (simp [*]; rfl)
      | (simp [*]; done)
      | (exfalso; exact hb ⟨by assumption, by omega, by omega⟩)
      | trace_state
end Go.Vi.CYthalmafpobmdoaa
