/-
  What is decided hangs on little: the walk of the law.
-/
import Derived.Test.YthalmafpobmdoaaCyS
namespace Go.Vi
section
variable {P : Program} {pol : Pol} {f : FuncId} {ops : Array Oper} {K : Fr → Hp → Prop} {n : Nat} {x : Nat → SV} {u : List (Nat × SV)} {y : Nat → TC} {w : List (Nat × TC)} {H : Hp} {l : List Oper} {d : Tmp} {ty : TypeId} {pos : String} {after : Array Edge} {g : Option (Nat × Bool)}
/-- a part of a variable that is a struct of plain cells -/
theorem Wo.loadP {t : TypeId} {p : Operand} {o g' off m : Nat} {cs : List SV} {wr : Bool} {vs : List VV} (h : WX P pol f ops l K n x ((d, .val (.agg vs)) :: u) y w H) (hx : evX n x u p = some (.loc o g' off) := by rfl) (hag : isAggT P t = some true := by rfl) (hb : tgX n y w o = .box g' cs wr := by rfl) (hsz : sizeT P t = some m := by rfl) (hle : Nat.ble (off + m) cs.length = true := by rfl) (hv : allVal ((cs.drop off).take m) = true := by rfl)
    (hw : openX ops g n x u = true := by rfl) (hn : outL ((cs.drop off).take m) = vs := by (try dsimp only [List.drop, List.take, outL]) <;> rfl) : WX P pol f ops (⟨some d, .load t p, ty, pos, after, g⟩ :: l) K n x u y w H := by
  subst hn
  have hle' := Nat.le_of_ble_eq_true hle
  refine WX.told (fun call => ?_) h hw
  simp only [stepV, hx, tget_mk, hb, if_true, ldS, hag, hsz, hle', stOf, mapM_outL hv, Option.map_some]
end
end Go.Vi
namespace Go.Vi.CYthalmafpobmdoaa
open Go.Vi Go.Proofs Go.Proofs.Ythalmafpobmdoaa
set_option linter.unusedVariables false
set_option maxHeartbeats 8000000
set_option maxRecDepth 100000
set_option linter.unusedSimpArgs false

/-- the same command, as it is to be done -/
def withExp (c o : Cm) (e : Int) : Cm := ⟨o.client, o.seq, o.stream, c.rule, c.args, e⟩
theorem refS_exp {t : Tb} {s : Stt} {c o : Cm} (hv : 0 ≤ s.ver) : refS t s (withExp c o s.ver) = refS t s (withExp c c (-1)) := by
  unfold refS withExp
  simp
theorem dec_alone {t : Tb} {s : Stt} {c o : Cm} (hv : 0 ≤ s.ver) : decS t s (withExp c o s.ver) = decS t s (withExp c c (-1)) := by
  unfold decS
  rw [refS_exp hv]
  rfl
theorem dec_half {t : Tb} {s : Stt} {c o : Cm} (hR : rightB t = true) (hm : mayS t s = true) (hv : 0 < s.ver) {e : Int} (he : 0 ≤ e ∧ e ≠ s.ver) (h1 : ¬ (decS t s (withExp c c (-1))).2 = 1) (h2 : ¬ (decS t s (withExp c c (-1))).2 = 2) (h3 : ¬ (decS t s (withExp c c (-1))).2 = 3) : (decS t s (withExp c o e)).2 = 4 := by
  have key : ∀ x : Cm, refS t s x = 1 ∨ refS t s x = 2 ∨ refS t s x = 3 → (decS t s x).2 = refS t s x := fun x hx => by
    unfold decS; rw [if_neg (by simp [hR]), if_pos (by omega)]
  have k := key (withExp c c (-1))
  have n1 : ¬ refS t s (withExp c c (-1)) = 1 := fun h => h1 ((k (.inl h)).trans h)
  have n2 : ¬ refS t s (withExp c c (-1)) = 2 := fun h => h2 ((k (.inr (.inl h))).trans h)
  have n3 : ¬ refS t s (withExp c c (-1)) = 3 := fun h => h3 ((k (.inr (.inr h))).trans h)
  have r4 : refS t s (withExp c o e) = 4 := by
    unfold refS withExp at n1 n2 n3 ⊢
    dsimp only at n1 n2 n3 ⊢
    rw [if_neg (by simp [hm])] at n1 n2 n3 ⊢
    cases hr : (if 0 ≤ c.rule then t.rules.list[c.rule.toNat]? else none) with
    | none => rw [hr] at n1; exact absurd rfl n1
    | some r =>
      rw [hr] at n2 n3
      simp only at n2 n3 ⊢
      by_cases a : (c.args.list.length : Int) ≠ r.args ∨ valuesOk c.args.list = false
      · rw [if_pos a] at n2; exact absurd rfl n2
      · rw [if_neg a] at n3 ⊢
        by_cases b : for' t c.rule s.at' = false
        · rw [if_pos b] at n3; exact absurd rfl n3
        · rw [if_neg b, if_pos he]
  unfold decS
  rw [if_neg (by simp [hR]), if_pos (by omega), r4]
def fourV (t : Tb) (s : Stt) (c o : Cm) : VV := .agg [slV .str t.states, slV .str t.vars, slV iv t.start, slV rlV t.rules, iv s.at', iv s.ver, slV iv s.vars, iv c.client, iv c.seq, .str c.stream, iv c.rule, slV iv c.args, iv c.exp, iv o.client, iv o.seq, .str o.stream, iv o.rule, slV iv o.args, iv o.exp]
theorem r_DecideAlone (t : Tb) (s : Stt) (c o : Cm) (ht : t.ok) (hs : s.ok) (hc : c.ok) (ho : o.ok) (H : Hp) : Runs Try.prog pol 7 [.val (fourV t s c o)] H ([.val (.bool true)], [], H) := by
  unfold fourV
  cases hR : rightB t
  · refine Runs.told (fn := Try.f7) (n := 106) [(0, .val (.agg [slV .str t.states, slV .str t.vars, slV iv t.start, slV rlV t.rules, iv s.at', iv s.ver, slV iv s.vars, iv c.client, iv c.seq, .str c.stream, iv c.rule, slV iv c.args, iv c.exp, iv o.client, iv o.seq, .str o.stream, iv o.rule, slV iv o.args, iv o.exp]))] [(0, .gone 0)] rfl Try.func7 rfl rfl (by kernel_rfl) rfl (by repeat' constructor) (by repeat' constructor) ?_
    repeat' (first
      | intro _
      | refine Ws ?_
      | (refine Wt ?_ ?_ <;> intro _ <;> try (exfalso; omega))
      | (refine Wu ?_ ?_ <;> intro _)
      | refine Wo.callB (r_lright t ht) (fun _ => ?_) (fun _ => ?_)
      | refine Wo.call0 (r_awake) ?_
      | refine Wo.loadP ?_
      | refine Wv ?_
      | refine Wz ?_
      | fail)
    all_goals first
      | rfl
      | (exfalso; have h : rightB t = true := by assumption
         rw [hR] at h; cases h; done)
      | trace_state
  · have hr7 := r_R7Right t s ht hs
    cases hm : mayS t s
    · refine Runs.told (fn := Try.f7) (n := 106) [(0, .val (.agg [slV .str t.states, slV .str t.vars, slV iv t.start, slV rlV t.rules, iv s.at', iv s.ver, slV iv s.vars, iv c.client, iv c.seq, .str c.stream, iv c.rule, slV iv c.args, iv c.exp, iv o.client, iv o.seq, .str o.stream, iv o.rule, slV iv o.args, iv o.exp]))] [(0, .gone 0)] rfl Try.func7 rfl rfl (by kernel_rfl) rfl (by repeat' constructor) (by repeat' constructor) ?_
      rw [hm] at hr7
      repeat' (first
        | intro _
        | refine Ws ?_
        | (refine Wt ?_ ?_ <;> intro _ <;> try (exfalso; omega))
        | (refine Wu ?_ ?_ <;> intro _)
        | refine Wo.callB (r_lright t ht) (fun _ => ?_) (fun _ => ?_)
        | refine Wo.call0 (r_awake) ?_
        | refine Wo.call0 (hr7) ?_
        | refine Wo.loadP ?_
        | refine Wv ?_
        | refine Wz ?_
        | fail)
      all_goals first
        | rfl
        | (exfalso; have h : rightB t = false := by assumption
           rw [hR] at h; cases h; done)
        | trace_state
    · rw [hm] at hr7
      have hmv := hm
      unfold mayS at hmv
      simp only [Bool.and_eq_true, decide_eq_true_eq] at hmv
      have hv0 : 0 ≤ s.ver ∧ s.ver ≤ 1099511627776 := by omega
      have hq : s.ver.tdiv 2 = s.ver / 2 := Int.tdiv_eq_ediv_of_nonneg hv0.1
      have hok : ∀ (o : Cm) (e : Int), o.ok → w64 e → (withExp c o e).ok := fun o e ho he => ⟨ho.1, ho.2.1, ho.2.2.1, hc.2.2.2.1, hc.2.2.2.2.1, he⟩
      have hd1 := r_Decide t s (withExp c c (-1)) ht hs (hok c _ hc (by unfold w64; omega))
      have hd2 := r_Decide t s o ht hs ho
      have hd3 := r_Decide t s (withExp c o s.ver) ht hs (hok o _ ho (by unfold w64; omega))
      have hd4 := r_Decide t s (withExp c o (s.ver.tdiv 2)) ht hs (hok o _ ho (by unfold w64; omega))
      rw [dec_alone hv0.1] at hd3
      have hdo := decS_evs (c := withExp c c (-1)) ht hs
      have hev := r_Events (decS t s (withExp c c (-1))).1 (decS t s (withExp c c (-1))).1 hdo hdo
      rw [eventsS_self] at hev
      refine Runs.told (fn := Try.f7) (n := 106) [(0, .val (.agg [slV .str t.states, slV .str t.vars, slV iv t.start, slV rlV t.rules, iv s.at', iv s.ver, slV iv s.vars, iv c.client, iv c.seq, .str c.stream, iv c.rule, slV iv c.args, iv c.exp, iv o.client, iv o.seq, .str o.stream, iv o.rule, slV iv o.args, iv o.exp]))] [(0, .gone 0)] rfl Try.func7 rfl rfl (by kernel_rfl) rfl (by repeat' constructor) (by repeat' constructor) ?_
      repeat' (first
        | intro _
        | refine Ws ?_
        | (refine Wt ?_ ?_ <;> intro _ <;> try (exfalso; omega))
        | (refine Wu ?_ ?_ <;> intro _)
        | refine Wo.callB (r_lright t ht) (fun _ => ?_) (fun _ => ?_)
        | refine Wo.call0 (r_awake) ?_
        | refine Wo.call0 (hr7) ?_
        | refine Wo.call0 (hd1) ?_
        | refine Wo.call0 (hd2) ?_
        | refine Wo.call0 (hd3) ?_
        | refine Wo.call0 (hd4) ?_
        | refine Wo.call0 (hev) ?_
        | refine Wo.loadP ?_
        | refine Wo.quo ?_ (hb := by rw [hq] <;> omega)
        | refine Wv ?_
        | refine Wz ?_
        | fail)
      all_goals first
        | rfl
        | (exfalso; have h : rightB t = false := by assumption
           rw [hR] at h; cases h; done)
        | (exfalso; rename_i a1 a2 a3 a4 a5; exact a5 (dec_half hR hm a1 (by rw [hq]; omega) a2 a3 a4))
        | trace_state
end Go.Vi.CYthalmafpobmdoaa
