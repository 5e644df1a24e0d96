/-
  Both clocks behind some calls; TimersApart.
-/
import Derived.Test.YtmcojibgjibkdaaCrR
namespace Go.Vi.CYtmcojibgjibkdaa
open Go.Vi Go.Proofs Go.Proofs.Ytmcojibgjibkdaa
set_option linter.unusedVariables false
set_option maxHeartbeats 16000000
set_option maxRecDepth 100000
set_option linter.unusedSimpArgs false

def runF (l : List Ac) (n : Nat) : Int × List Tm := (l.take n).foldl stepF (0, [])
theorem runF_step {l : List Ac} {i : Nat} {z : Ac} (hz : l[i]? = some z) : runF l (i + 1) = stepF (runF l i) z := by
  unfold runF
  rw [List.take_add_one, hz, Option.toList_some, List.foldl_append]; rfl
theorem runF_end {l : List Ac} {i : Nat} (h1 : i ≤ 90) (h2 : ¬ (i < l.length ∧ i < 90)) : runF l i = runF l 90 := by
  unfold runF
  by_cases h : i = 90
  · rw [h]
  · rw [List.take_of_length_le (by omega), List.take_of_length_le (by omega)]
theorem r_made (s : Sl Ac) (hs : Sl.ok s ∧ ∀ y ∈ s.list, y.ok) (H : Hp) :
    ∃ c x H' S, Runs Try.prog pol 15 [.val (slV acV s)] H ([.val (.ptr c 0), .val (.ptr x 0), .val (.bool true)], [], H') ∧ Both H' c x (runF s.list 90) S ∧ Step H H' [] (x :: S) ∧ (runF s.list 90).2.length ≤ 90 := by
  obtain ⟨c, H0, S0, R0, C0, T0⟩ := r_New H
  obtain ⟨H1, hH1⟩ : ∃ H1, H1 = H0.put (.cells [iv 0, .nils]) := ⟨_, rfl⟩
  have n1 : H1.next = H0.next + 1 := by rw [hH1, put_next]
  have B1 : Both H1 c H0.next (0, []) S0 := by
    refine ⟨C0.keep ⟨by omega, fun q hq => ?_⟩, ⟨by omega, none, by rw [hH1, put_eq]; rfl, rfl⟩, fun hq => ?_, srt_nil, ok0⟩
    · rw [hH1, put_ne (by have := C0.lt q hq; omega)]
    · have := C0.lt _ hq; omega
  have T1 : Step H H1 [] (H0.next :: S0) := by
    refine ⟨by have := T0.nx; omega, fun q h1 h2 => ?_, fun q hq => ?_⟩
    · have := T0.nx
      rw [hH1, put_ne (by omega), T0.ob q h1 h2]
    · rcases List.mem_cons.1 hq with e | e
      · exact .inr (by rw [e]; exact T0.nx)
      · exact T0.gr q e
  suffices hE : RunsE Try.prog pol 15 [.val (slV acV s)] H (fun r H' => r = [.val (.ptr c 0), .val (.ptr H0.next 0), .val (.bool true)] ∧ ∃ S, Both H' c H0.next (runF s.list 90) S ∧ Step H H' [] (H0.next :: S) ∧ (runF s.list 90).2.length ≤ 90) by
    obtain ⟨r, H', h1, rfl, S, h2⟩ := hE
    exact ⟨c, _, H', S, h1, h2⟩
  have hsl := hs.1
  unfold Sl.ok at hsl
  refine Runs.toldE (fn := Try.f15) (n := 33) [(0, .val (slV acV s))] [(0, .gone 0)] rfl Try.func15 rfl rfl (by kernel_rfl) rfl (by repeat' constructor) (by repeat' constructor) ?_
  repeat' (first
    | intro _
    | refine Ws ?_
    | (refine Wt ?_ ?_ <;> intro _ <;> try (exfalso; omega))
    | (refine Wu ?_ ?_ <;> intro _)
    | refine Wo.callI R0 ?_
    | refine Wo.boxH (b := .agg [iv 0, .nils]) hH1.symm ?_
    | refine Wv ?_
    | refine Wz ?_
    | fail)
  refine Wx.loopH (fun (K, S, i) => K) [0, 5, 6, 31, 32] [0, 8, 10] (fun (K, S, i) => [(7, .val (iv (i : Nat)))]) (fun (K, S, i) => []) (fun (K, S, i) => Both K c H0.next (runF s.list i) S ∧ Step H K [] (H0.next :: S) ∧ i ≤ s.list.length ∧ i ≤ 90 ∧ (runF s.list i).2.length ≤ i) (fun (K, S, i) => s.list.length - i) (H1, S0, 0) ⟨B1, T1, Nat.zero_le _, by omega, Nat.le_refl _⟩ (fun a x y hG => ?_)
  obtain ⟨K, S, i⟩ := a
  obtain ⟨hB, hT, hi, hi2, hl⟩ := hG
  dsimp only [List.cons_append, List.nil_append]
  by_cases hgo : i < s.list.length ∧ i < 90
  · obtain ⟨a, ha⟩ := at_some hgo.1
    obtain ⟨K', S', R, B', T'⟩ := r_do hB (hs.2 a (List.mem_of_getElem? ha)) (by omega)
    rw [← runF_step ha] at B'
    have hl2 := stepF_len (p := runF s.list i) (a := a)
    rw [← runF_step ha] at hl2
    repeat' (first
      | intro _
      | refine Ws ?_
      | (refine Wt ?_ ?_ <;> intro _ <;> try (exfalso; omega))
      | (refine Wu ?_ ?_ <;> intro _)
      | refine Wo.callI R ?_
      | refine Wv ?_
      | refine Wz ?_
      | fail)
    all_goals exact RdH (K', S', i + 1) (by dsimp only; omega) ⟨B', hT.trans T', (by dsimp only; omega), (by dsimp only; omega), (by dsimp only; omega)⟩ rfl
  · rw [runF_end hi2 hgo] at hB hl
    repeat' (first
      | intro _
      | refine Ws ?_
      | (refine Wt ?_ ?_ <;> intro _ <;> try (exfalso; omega))
      | (refine Wu ?_ ?_ <;> intro _)
      | refine Wv ?_
      | refine Wz ?_
      | fail)
    all_goals exact Wl.retE ⟨rfl, S, hB, hT, by omega⟩
theorem r_TimersApart (s : Sl Ac) (a : Ac) (key : Int) (hs : Sl.ok s ∧ ∀ y ∈ s.list, y.ok) (ha : a.ok) (hk : w64 key) : ∃ H, Runs Try.prog pol 4 [.val (slV acV s), .val (acV a), .val (iv key)] (Hp.bare 0) ([.val (.bool true)], [], H) := by
  obtain ⟨⟨hk1, hk2⟩, ⟨hk3, hk4⟩, ⟨hk5, hk6⟩⟩ := ha
  obtain ⟨c, x, H1, S1, R1, B1, T1, hl⟩ := r_made s hs (Hp.bare 0)
  obtain ⟨H2, R2, T2⟩ := r_awakeH H1
  have C2 : Ck H2 c (runF s.list 90).1 (runF s.list 90).2 S1 := B1.ck.keep (T2.keep fun q hq => ⟨B1.ck.lt q hq, by simp⟩)
  have hok := B1.ok
  have hso := B1.so
  generalize runF s.list 90 = p at *
  by_cases hkey : a.key = key
  · obtain ⟨H3, R3, T3⟩ := r_awakeH H2
    refine ⟨H3, ?_⟩
    refine Runs.toldH (fn := Try.f4) (n := 72) [(0, .val (slV acV s)), (1, .val (acV a)), (2, .val (iv key))] [(0, .gone 0), (1, .gone 0), (2, .gone 0)] rfl Try.func4 rfl rfl (by kernel_rfl) rfl (by repeat' constructor) (by repeat' constructor) ?_
    repeat' (first
      | intro _
      | refine Ws ?_
      | (refine Wt ?_ ?_ <;> intro _ <;> try (exfalso; omega))
      | (refine Wu ?_ ?_ <;> intro _)
      | refine Wo.callI R1 ?_
      | refine Wo.callI R2 ?_
      | refine Wo.callI R3 ?_
      | refine Wl.retH rfl rfl
      | refine Wv ?_
      | refine Wz ?_
      | fail)
    all_goals rfl
  · -- what a call with another key leaves
    have same : ∀ {ts' : List Tm} {H3 : Hp} {S3 : List Nat}, Ck H3 c p.1 ts' S3 → ts'.length ≤ 1000 → (∀ z : Tm, z.key = key → (z ∈ ts' ↔ z ∈ p.2)) → ∃ n b, Runs Try.prog pol 14 [.val (.ptr c 0), .val (iv key)] H2 ([.val (iv n), .val (.bool b)], [], H2) ∧ Runs Try.prog pol 14 [.val (.ptr c 0), .val (iv key)] H3 ([.val (iv n), .val (.bool b)], [], H3) := by
      intro ts' H3 S3 hC h3 hm
      by_cases hin : ∃ z ∈ p.2, z.key = key
      · obtain ⟨z, hz, rfl⟩ := hin
        exact ⟨z.due, true, r_Due1 C2 hz (by omega), r_Due1 hC ((hm z rfl).2 hz) (by omega)⟩
      · exact ⟨0, false, r_Due0 C2 (fun z hz e => hin ⟨z, hz, e⟩), r_Due0 hC (fun z hz e => hin ⟨z, (hm z e).1 hz, e⟩)⟩
    by_cases hset : a.kind = 0 ∨ a.kind = 1 ∨ a.kind = 2
    · by_cases hb : badN p.1 a.n
      · have R := r_SetBad (k := a.key) C2 hok hb
        obtain ⟨n, b, D1, D2⟩ := same C2 (by omega) fun z _ => Iff.rfl
        refine ⟨H2, ?_⟩
        refine Runs.toldH (fn := Try.f4) (n := 72) [(0, .val (slV acV s)), (1, .val (acV a)), (2, .val (iv key))] [(0, .gone 0), (1, .gone 0), (2, .gone 0)] rfl Try.func4 rfl rfl (by kernel_rfl) rfl (by repeat' constructor) (by repeat' constructor) ?_
        cases b
        all_goals
          repeat' (first
            | intro _
            | refine Ws ?_
            | (refine Wt ?_ ?_ <;> intro _ <;> try (exfalso; omega))
            | (refine Wu ?_ ?_ <;> intro _)
            | refine Wo.callI R1 ?_
            | refine Wo.callI R2 ?_
            | refine Wo.callI D1 ?_
            | refine Wo.callI R ?_
            | refine Wl.retH rfl rfl
            | refine Wv ?_
            | refine Wz ?_
            | fail)
        all_goals rfl
      · obtain ⟨H3, S3, R, C3, T3⟩ := r_Set (k := a.key) C2 hok hb hso (by omega)
        have hl3 := setT_len (k := a.key) (d := p.1 + a.n) (ts := p.2)
        obtain ⟨n, b, D1, D2⟩ := same C3 (by omega) fun z hz => by
          rw [mem_set]
          constructor
          · rintro (e | e)
            · subst e; exact absurd hz hkey
            · exact e.1
          · exact fun e => .inr ⟨e, fun h => hkey (h.symm.trans hz)⟩
        refine ⟨H3, ?_⟩
        refine Runs.toldH (fn := Try.f4) (n := 72) [(0, .val (slV acV s)), (1, .val (acV a)), (2, .val (iv key))] [(0, .gone 0), (1, .gone 0), (2, .gone 0)] rfl Try.func4 rfl rfl (by kernel_rfl) rfl (by repeat' constructor) (by repeat' constructor) ?_
        cases b
        all_goals
          repeat' (first
            | intro _
            | refine Ws ?_
            | (refine Wt ?_ ?_ <;> intro _ <;> try (exfalso; omega))
            | (refine Wu ?_ ?_ <;> intro _)
            | refine Wo.callI R1 ?_
            | refine Wo.callI R2 ?_
            | refine Wo.callI D1 ?_
            | refine Wo.callI R ?_
            | refine Wo.callI D2 ?_
            | refine Wl.retH rfl rfl
            | refine Wv ?_
            | refine Wz ?_
            | fail)
        all_goals rfl
    · by_cases hin : ∃ z ∈ p.2, z.key = a.key
      · obtain ⟨z, hz, hzk⟩ := id hin
        obtain ⟨H3, S3, R, C3, T3⟩ := r_Stop1 C2 hso hz (by omega)
        rw [hzk] at R C3
        have hl3 := stopT_len (k := a.key) (ts := p.2)
        obtain ⟨n, b, D1, D2⟩ := same C3 (by omega) fun z hz => by
          rw [mem_stop]
          exact ⟨fun e => e.1, fun e => ⟨e, fun h => hkey (h.symm.trans hz)⟩⟩
        refine ⟨H3, ?_⟩
        refine Runs.toldH (fn := Try.f4) (n := 72) [(0, .val (slV acV s)), (1, .val (acV a)), (2, .val (iv key))] [(0, .gone 0), (1, .gone 0), (2, .gone 0)] rfl Try.func4 rfl rfl (by kernel_rfl) rfl (by repeat' constructor) (by repeat' constructor) ?_
        cases b
        all_goals
          repeat' (first
            | intro _
            | refine Ws ?_
            | (refine Wt ?_ ?_ <;> intro _ <;> try (exfalso; omega))
            | (refine Wu ?_ ?_ <;> intro _)
            | refine Wo.callI R1 ?_
            | refine Wo.callI R2 ?_
            | refine Wo.callI D1 ?_
            | refine Wo.callI R ?_
            | refine Wo.callI D2 ?_
            | refine Wl.retH rfl rfl
            | refine Wv ?_
            | refine Wz ?_
            | fail)
        all_goals rfl
      · have R := r_Stop0 C2 (k := a.key) fun z hz e => hin ⟨z, hz, e⟩
        obtain ⟨n, b, D1, D2⟩ := same C2 (by omega) fun z _ => Iff.rfl
        refine ⟨H2, ?_⟩
        refine Runs.toldH (fn := Try.f4) (n := 72) [(0, .val (slV acV s)), (1, .val (acV a)), (2, .val (iv key))] [(0, .gone 0), (1, .gone 0), (2, .gone 0)] rfl Try.func4 rfl rfl (by kernel_rfl) rfl (by repeat' constructor) (by repeat' constructor) ?_
        cases b
        all_goals
          repeat' (first
            | intro _
            | refine Ws ?_
            | (refine Wt ?_ ?_ <;> intro _ <;> try (exfalso; omega))
            | (refine Wu ?_ ?_ <;> intro _)
            | refine Wo.callI R1 ?_
            | refine Wo.callI R2 ?_
            | refine Wo.callI D1 ?_
            | refine Wo.callI R ?_
            | refine Wl.retH rfl rfl
            | refine Wv ?_
            | refine Wz ?_
            | fail)
        all_goals rfl
end Go.Vi.CYtmcojibgjibkdaa
