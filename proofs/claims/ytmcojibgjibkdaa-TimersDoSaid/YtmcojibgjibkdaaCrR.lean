/-
  A call of both clocks; both behind some calls.
-/
import Derived.Test.YtmcojibgjibkdaaCrQb
import Derived.Test.YtmcojibgjibkdaaCrO
namespace Go.Vi.CYtmcojibgjibkdaa
open Go.Vi Go.Proofs Go.Proofs.Ytmcojibgjibkdaa
set_option linter.unusedVariables false
set_option maxHeartbeats 16000000
set_option maxRecDepth 100000
set_option linter.unusedSimpArgs false

instance badN_dec (now n : Int) : Decidable (badN now n) := by unfold badN; infer_instance
/-- what a call makes of a time and its timers -/
def stepF (p : Int × List Tm) (a : Ac) : Int × List Tm :=
  if a.kind = 0 ∨ a.kind = 1 ∨ a.kind = 2 then (if badN p.1 a.n then p else (p.1, setT a.key (p.1 + a.n) p.2))
  else if a.kind = 3 then (p.1, stopT a.key p.2)
  else if badN p.1 a.n then p else (p.1 + a.n, (goT (p.1 + a.n) p.2).2)
theorem Step.keep {H H' : Hp} {S S' T : List Nat} (h : Step H H' S S') (ht : ∀ q ∈ T, q < H.next ∧ q ∉ S) : Keep H H' T := ⟨h.nx, fun q hq => h.ob q (ht q hq).1 (ht q hq).2⟩
/-- both clocks, apart -/
structure Both (H : Hp) (c x : Nat) (p : Int × List Tm) (S : List Nat) : Prop where
  ck : Ck H c p.1 p.2 S
  rf : Rf H x p.1 p.2
  ne : x ∉ S
  so : Srt p.2
  ok : nowOk p.1
theorem Both.fin {H H1 H2 : Hp} {c x : Nat} {p p' : Int × List Tm} {S S' : List Nat} (h : Both H c x p S) (hc : Ck H1 c p'.1 p'.2 S') (h1 : Step H H1 S S') (hr : Rf H2 x p'.1 p'.2) (h2 : Step H1 H2 [x] [x]) (so : Srt p'.2) (ok : nowOk p'.1) : Both H2 c x p' S' ∧ Step H H2 (x :: S) (x :: S') := by
  have hx : x < H.next := h.rf.1
  have hne : x ∉ S' := fun hq => by
    rcases h1.gr x hq with e | e
    · exact h.ne e
    · omega
  refine ⟨⟨hc.keep (h2.keep fun q hq => ⟨hc.lt q hq, fun e => hne (by simp at e; exact e ▸ hq)⟩), hr, hne, so, ok⟩, Nat.le_trans h1.nx h2.nx, fun q q1 q2 => ?_, fun q hq => ?_⟩
  · rw [h2.ob q (Nat.lt_of_lt_of_le q1 h1.nx) (fun e => q2 (by simp at e; simp [e]))]
    exact h1.ob q q1 fun e => q2 (List.mem_cons_of_mem _ e)
  · rcases List.mem_cons.1 hq with rfl | hq
    · exact .inl (List.mem_cons_self ..)
    · rcases h1.gr q hq with e | e
      · exact .inl (List.mem_cons_of_mem _ e)
      · exact .inr e
/-- the reference's clock behind a change of the other one -/
theorem Both.rf1 {H H1 : Hp} {c x : Nat} {p : Int × List Tm} {S S' : List Nat} (h : Both H c x p S) (h1 : Step H H1 S S') : Rf H1 x p.1 p.2 :=
  h.rf.keep (h1.keep fun q hq => by simp at hq; subst hq; exact ⟨h.rf.1, h.ne⟩)
theorem Both.same {H : Hp} {c x : Nat} {p : Int × List Tm} {S : List Nat} (h : Both H c x p S) : Both H c x p S ∧ Step H H (x :: S) (x :: S) := ⟨h, Step.refl⟩
theorem stepF_set {p : Int × List Tm} {a : Ac} (h : a.kind = 0 ∨ a.kind = 1 ∨ a.kind = 2) (hb : ¬ badN p.1 a.n) : stepF p a = (p.1, setT a.key (p.1 + a.n) p.2) := by
  unfold stepF; rw [if_pos h, if_neg hb]
theorem stepF_setB {p : Int × List Tm} {a : Ac} (h : a.kind = 0 ∨ a.kind = 1 ∨ a.kind = 2) (hb : badN p.1 a.n) : stepF p a = p := by
  unfold stepF; rw [if_pos h, if_pos hb]
theorem stepF_stop {p : Int × List Tm} {a : Ac} (h : ¬ (a.kind = 0 ∨ a.kind = 1 ∨ a.kind = 2)) (h3 : a.kind = 3) : stepF p a = (p.1, stopT a.key p.2) := by
  unfold stepF; rw [if_neg h, if_pos h3]
theorem stepF_go {p : Int × List Tm} {a : Ac} (h : ¬ (a.kind = 0 ∨ a.kind = 1 ∨ a.kind = 2)) (h3 : ¬ a.kind = 3) (hb : ¬ badN p.1 a.n) : stepF p a = (p.1 + a.n, (goT (p.1 + a.n) p.2).2) := by
  unfold stepF; rw [if_neg h, if_neg h3, if_neg hb]
theorem stepF_goB {p : Int × List Tm} {a : Ac} (h : ¬ (a.kind = 0 ∨ a.kind = 1 ∨ a.kind = 2)) (h3 : ¬ a.kind = 3) (hb : badN p.1 a.n) : stepF p a = p := by
  unfold stepF; rw [if_neg h, if_neg h3, if_pos hb]
theorem stepF_len {p : Int × List Tm} {a : Ac} : (stepF p a).2.length ≤ p.2.length + 1 := by
  unfold stepF
  have h1 := setT_len (k := a.key) (d := p.1 + a.n) (ts := p.2)
  have h2 := stopT_len (k := a.key) (ts := p.2)
  have h3 := goT_len (now := p.1 + a.n) (ts := p.2)
  split
  · split
    · omega
    · exact h1
  · split
    · dsimp only; omega
    · split
      · omega
      · dsimp only; omega
theorem r_do {H : Hp} {c x : Nat} {p : Int × List Tm} {S : List Nat} {a : Ac} (h : Both H c x p S) (ha : a.ok) (hlen : p.2.length < 1000) :
    ∃ H' S', Runs Try.prog pol 24 [.val (.ptr c 0), .val (.ptr x 0), .val (acV a)] H ([.val (.bool true)], [], H') ∧ Both H' c x (stepF p a) S' ∧ Step H H' (x :: S) (x :: S') := by
  obtain ⟨⟨hk1, hk2⟩, ⟨hk3, hk4⟩, ⟨hk5, hk6⟩⟩ := ha
  have hok := h.ok
  unfold nowOk at hok
  by_cases hset : a.kind = 0 ∨ a.kind = 1 ∨ a.kind = 2
  · by_cases hb : badN p.1 a.n
    · have R := r_SetBad (k := a.key) h.ck h.ok hb
      have R2 := r_RSetBad (k := a.key) h.rf h.ok hb
      rw [stepF_setB hset hb]
      refine ⟨H, S, ?_, h.same⟩
      refine Runs.toldH (fn := Try.f24) (n := 63) [(0, .val (.ptr c 0)), (1, .val (.ptr x 0)), (2, .val (acV a))] [(0, .gone 0), (1, .gone 0), (2, .gone 0)] rfl Try.func24 rfl rfl (by kernel_rfl) rfl (by repeat' constructor) (by repeat' constructor) ?_
      repeat' (first
        | intro _
        | refine Ws ?_
        | (refine Wt ?_ ?_ <;> intro _ <;> try (exfalso; omega))
        | (refine Wu ?_ ?_ <;> intro _)
        | refine Wo.callI R ?_
        | refine Wo.callI R2 ?_
        | refine Wl.retH rfl rfl
        | refine Wv ?_
        | refine Wz ?_
        | fail)
      all_goals rfl
    · obtain ⟨H1, S1, R, C1, T1⟩ := r_Set (k := a.key) h.ck h.ok hb h.so (by omega)
      obtain ⟨H2, R2, F2, T2⟩ := r_RSet (k := a.key) (h.rf1 T1) h.ok hb (by omega)
      rw [stepF_set hset hb]
      refine ⟨H2, S1, ?_, h.fin (p' := (p.1, setT a.key (p.1 + a.n) p.2)) C1 T1 F2 T2 (h.so.set _ _) h.ok⟩
      refine Runs.toldH (fn := Try.f24) (n := 63) [(0, .val (.ptr c 0)), (1, .val (.ptr x 0)), (2, .val (acV a))] [(0, .gone 0), (1, .gone 0), (2, .gone 0)] rfl Try.func24 rfl rfl (by kernel_rfl) rfl (by repeat' constructor) (by repeat' constructor) ?_
      repeat' (first
        | intro _
        | refine Ws ?_
        | (refine Wt ?_ ?_ <;> intro _ <;> try (exfalso; omega))
        | (refine Wu ?_ ?_ <;> intro _)
        | refine Wo.callI R ?_
        | refine Wo.callI R2 ?_
        | refine Wl.retH rfl rfl
        | refine Wv ?_
        | refine Wz ?_
        | fail)
      all_goals rfl
  · by_cases hstop : a.kind = 3
    · rw [stepF_stop hset hstop]
      by_cases hin : ∃ z ∈ p.2, z.key = a.key
      · obtain ⟨z, hz, hzk⟩ := id hin
        obtain ⟨H1, S1, R, C1, T1⟩ := r_Stop1 h.ck h.so hz (by omega)
        rw [hzk] at R C1
        obtain ⟨e, H2, R2, F2, T2, _, he⟩ := r_RStop (k := a.key) (h.rf1 T1) (by omega)
        have he := he hin
        subst he
        refine ⟨H2, S1, ?_, h.fin (p' := (p.1, stopT a.key p.2)) C1 T1 F2 T2 (h.so.stop _) h.ok⟩
        refine Runs.toldH (fn := Try.f24) (n := 63) [(0, .val (.ptr c 0)), (1, .val (.ptr x 0)), (2, .val (acV a))] [(0, .gone 0), (1, .gone 0), (2, .gone 0)] rfl Try.func24 rfl rfl (by kernel_rfl) rfl (by repeat' constructor) (by repeat' constructor) ?_
        repeat' (first
          | intro _
          | refine Ws ?_
          | (refine Wt ?_ ?_ <;> intro _ <;> try (exfalso; omega))
          | (refine Wu ?_ ?_ <;> intro _)
          | refine Wo.callI R ?_
          | refine Wo.callI R2 ?_
          | refine Wl.retH rfl rfl
          | refine Wv ?_
          | refine Wz ?_
          | fail)
        all_goals rfl
      · have hno : ∀ z ∈ p.2, z.key ≠ a.key := fun z hz e => hin ⟨z, hz, e⟩
        have R := r_Stop0 h.ck hno
        obtain ⟨e, H2, R2, F2, T2, he, _⟩ := r_RStop (k := a.key) h.rf (by omega)
        have he := he hno
        subst he
        refine ⟨H2, S, ?_, h.fin (p' := (p.1, stopT a.key p.2)) (by dsimp only; rw [stop_none hno]; exact h.ck) Step.refl F2 T2 (h.so.stop _) h.ok⟩
        refine Runs.toldH (fn := Try.f24) (n := 63) [(0, .val (.ptr c 0)), (1, .val (.ptr x 0)), (2, .val (acV a))] [(0, .gone 0), (1, .gone 0), (2, .gone 0)] rfl Try.func24 rfl rfl (by kernel_rfl) rfl (by repeat' constructor) (by repeat' constructor) ?_
        repeat' (first
          | intro _
          | refine Ws ?_
          | (refine Wt ?_ ?_ <;> intro _ <;> try (exfalso; omega))
          | (refine Wu ?_ ?_ <;> intro _)
          | refine Wo.callI R ?_
          | refine Wo.callI R2 ?_
          | refine Wl.retH rfl rfl
          | refine Wv ?_
          | refine Wz ?_
          | fail)
        all_goals rfl
    · by_cases hb : badN p.1 a.n
      · have R := r_GoBad h.ck h.ok hb
        have R2 := r_RGoBad h.rf h.ok hb
        have I : ∀ H, Runs Try.prog pol 16 [.val .nils, .val .nils] H ([.val (.bool true)], [], H) := fun H => r_Ints none none rfl (by unfold Sl.ok; decide) H
        rw [stepF_goB hset hstop hb]
        refine ⟨H, S, ?_, h.same⟩
        refine Runs.toldH (fn := Try.f24) (n := 63) [(0, .val (.ptr c 0)), (1, .val (.ptr x 0)), (2, .val (acV a))] [(0, .gone 0), (1, .gone 0), (2, .gone 0)] rfl Try.func24 rfl rfl (by kernel_rfl) rfl (by repeat' constructor) (by repeat' constructor) ?_
        repeat' (first
          | intro _
          | refine Ws ?_
          | (refine Wt ?_ ?_ <;> intro _ <;> try (exfalso; omega))
          | (refine Wu ?_ ?_ <;> intro _)
          | refine Wo.callI R ?_
          | refine Wo.callI R2 ?_
          | refine Wo.callGV I ?_
          | refine Wl.retH rfl rfl
          | refine Wv ?_
          | refine Wz ?_
          | fail)
        all_goals rfl
      · obtain ⟨H1, S1, R, C1, T1⟩ := r_Go h.ck h.ok hb h.so (by omega)
        obtain ⟨so, hso, H2, R2, F2, T2⟩ := r_RGo (h.rf1 T1) h.ok hb (by omega)
        have hl := goT_len (now := p.1 + a.n) (ts := p.2)
        have hn2 : nowOk (p.1 + a.n) := by unfold badN at hb; unfold nowOk; omega
        rw [stepF_go hset hstop hb]
        refine ⟨H2, S1, ?_, h.fin (p' := (p.1 + a.n, (goT (p.1 + a.n) p.2).2)) C1 T1 F2 T2 h.so.go hn2⟩
        rcases goR_cases (goT (p.1 + a.n) p.2).1 with ⟨ho, hr⟩ | ⟨a1, r1, ho, hr⟩
        · have I : ∀ H, Runs Try.prog pol 16 [.val (slV iv none), .val (slV iv so)] H ([.val (.bool true)], [], H) := fun H => r_Ints none so (ho.symm.trans hso.symm) (by unfold Sl.ok; decide) H
          rw [hr] at R
          refine Runs.toldH (fn := Try.f24) (n := 63) [(0, .val (.ptr c 0)), (1, .val (.ptr x 0)), (2, .val (acV a))] [(0, .gone 0), (1, .gone 0), (2, .gone 0)] rfl Try.func24 rfl rfl (by kernel_rfl) rfl (by repeat' constructor) (by repeat' constructor) ?_
          repeat' (first
            | intro _
            | refine Ws ?_
            | (refine Wt ?_ ?_ <;> intro _ <;> try (exfalso; omega))
            | (refine Wu ?_ ?_ <;> intro _)
            | refine Wo.callI R ?_
            | refine Wo.callI R2 ?_
            | refine Wo.callGV I ?_
            | refine Wl.retH rfl rfl
            | refine Wv ?_
            | refine Wz ?_
            | fail)
          all_goals rfl
        · have I : ∀ H, Runs Try.prog pol 16 [.val (slV iv (some (goT (p.1 + a.n) p.2).1)), .val (slV iv so)] H ([.val (.bool true)], [], H) := fun H => r_Ints (some _) so hso.symm (by unfold Sl.ok; show (goT (p.1 + a.n) p.2).1.length ≤ _; omega) H
          rw [hr] at R
          refine Runs.toldH (fn := Try.f24) (n := 63) [(0, .val (.ptr c 0)), (1, .val (.ptr x 0)), (2, .val (acV a))] [(0, .gone 0), (1, .gone 0), (2, .gone 0)] rfl Try.func24 rfl rfl (by kernel_rfl) rfl (by repeat' constructor) (by repeat' constructor) ?_
          repeat' (first
            | intro _
            | refine Ws ?_
            | (refine Wt ?_ ?_ <;> intro _ <;> try (exfalso; omega))
            | (refine Wu ?_ ?_ <;> intro _)
            | refine Wo.callIO R (fun _ => ?_)
            | refine Wo.callI R2 ?_
            | refine Wo.callGV I ?_
            | refine Wl.retH rfl rfl
            | refine Wv ?_
            | refine Wz ?_
            | fail)
          all_goals rfl
end Go.Vi.CYtmcojibgjibkdaa
