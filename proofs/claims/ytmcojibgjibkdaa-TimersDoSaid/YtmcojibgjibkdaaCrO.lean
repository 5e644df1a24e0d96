/-
  TimersOnce: what is set comes just once.
-/
import Derived.Test.YtmcojibgjibkdaaCrN
namespace Go.Vi.CYtmcojibgjibkdaa
open Go.Vi Go.Proofs Go.Proofs.Ytmcojibgjibkdaa
set_option linter.unusedVariables false
set_option maxHeartbeats 16000000
set_option maxRecDepth 100000
set_option linter.unusedSimpArgs false

theorem goR_cases (out : List Int) : (out = [] ∧ goR out = .val .nils) ∨ (∃ a r, out = a :: r ∧ goR out = .own (out.map iv) 1) := by
  cases out with
  | nil => exact .inl ⟨rfl, rfl⟩
  | cons a r => exact .inr ⟨a, r, rfl, rfl⟩
theorem r_TimersOnce (s : Sl Ac) (key : Int) (hs : Sl.ok s ∧ ∀ y ∈ s.list, y.ok) (hk : w64 key) : ∃ H, Runs Try.prog pol 3 [.val (slV acV s), .val (iv key)] (Hp.bare 0) ([.val (.bool true)], [], H) := by
  suffices hE : RunsE Try.prog pol 3 [.val (slV acV s), .val (iv key)] (Hp.bare 0) (fun r H' => r = [.val (.bool true)]) by
    obtain ⟨r, H', h1, rfl⟩ := hE
    exact ⟨H', h1⟩
  have hsl := hs.1
  unfold Sl.ok at hsl
  obtain ⟨c, H0, S0, R0, C0, T0⟩ := r_New (Hp.bare 0)
  obtain ⟨H1, RA, TA⟩ := r_awakeH H0
  have C1 : Ck H1 c 0 [] S0 := C0.keep ⟨TA.nx, fun q hq => TA.ob q (C0.lt q hq) (by simp)⟩
  refine Runs.toldE (fn := Try.f3) (n := 133) [(0, .val (slV acV s)), (1, .val (iv key))] [(0, .gone 0), (1, .gone 0)] rfl Try.func3 rfl rfl (by kernel_rfl) rfl (by repeat' constructor) (by repeat' constructor) ?_
  repeat' (first
    | intro _
    | refine Ws ?_
    | (refine Wt ?_ ?_ <;> intro _ <;> try (exfalso; omega))
    | (refine Wu ?_ ?_ <;> intro _)
    | refine Wo.callI R0 ?_
    | refine Wo.callI RA ?_
    | refine Wv ?_
    | refine Wz ?_
    | fail)
  refine Wx.loopH (fun (K, S, now, ts, due, i) => K) [0, 1, 5, 14, 15, 114, 115, 116, 117, 118, 119, 120, 121, 122, 123, 124, 125, 126, 127, 128, 129, 130, 131, 132] [0, 1, 16, 20, 117] (fun (K, S, now, ts, due, i) => [(6, .val (iv due)), (7, .val (iv (i : Nat)))]) (fun (K, S, now, ts, due, i) => []) (fun (K, S, now, ts, due, i) => Ck K c now ts S ∧ Srt ts ∧ nowOk now ∧ Dq key due ts ∧ ts.length ≤ i ∧ i ≤ 90 ∧ i ≤ s.list.length) (fun (K, S, now, ts, due, i) => s.list.length - i) (H1, S0, 0, [], -1, 0) ⟨C1, srt_nil, ok0, .inl ⟨rfl, fun z hz => by cases hz⟩, Nat.le_refl _, by omega, by omega⟩ (fun a x y hG => ?_)
  obtain ⟨K, S, now, ts, due, i⟩ := a
  obtain ⟨hC, hS, hn, hD, hl, hi, his⟩ := hG
  dsimp only [List.cons_append, List.nil_append]
  have hdue : -1 ≤ due ∧ due ≤ 1099511627776 := by
    rcases hD with ⟨rfl, _⟩ | ⟨h1, h2, _⟩ <;> omega
  have hn' := hn
  unfold nowOk at hn'
  by_cases hgo : i < s.list.length ∧ i < 90
  · obtain ⟨a, ha⟩ := at_some hgo.1
    obtain ⟨⟨hk1, hk2⟩, ⟨hk3, hk4⟩, ⟨hk5, hk6⟩⟩ := hs.2 a (List.mem_of_getElem? ha)
    by_cases hset : a.kind = 0 ∨ a.kind = 1 ∨ a.kind = 2
    · by_cases hb : badN now a.n
      · have R := r_SetBad (k := a.key) hC hn hb
        repeat' (first
          | intro _
          | refine Ws ?_
          | (refine Wt ?_ ?_ <;> intro _ <;> try (exfalso; omega))
          | (refine Wu ?_ ?_ <;> intro _)
          | refine Wo.callI R ?_
          | refine Wv ?_
          | refine Wz ?_
          | fail)
        all_goals exact RdH (K, S, now, ts, due, i + 1) (by dsimp only; omega) ⟨hC, hS, hn, hD, (by dsimp only; omega), (by dsimp only; omega), (by dsimp only; omega)⟩ rfl
      · obtain ⟨K', S', R, C', T'⟩ := r_Set (k := a.key) hC hn hb hS (by omega)
        have RN := r_Now C'
        unfold badN at hb
        have hl2 := setT_len (k := a.key) (d := now + a.n) (ts := ts)
        by_cases hkey : a.key = key
        · have hD' : Dq key (now + a.n) (setT a.key (now + a.n) ts) := by rw [hkey]; exact Dq.set (due := due) ⟨by omega, by omega⟩
          repeat' (first
            | intro _
            | refine Ws ?_
            | (refine Wt ?_ ?_ <;> intro _ <;> try (exfalso; omega))
            | (refine Wu ?_ ?_ <;> intro _)
            | refine Wo.callI R ?_
            | refine Wo.callI RN ?_
            | refine Wv ?_
            | refine Wz ?_
            | fail)
          all_goals exact RdH (K', S', now, setT a.key (now + a.n) ts, now + a.n, i + 1) (by dsimp only; omega) ⟨C', hS.set _ _, hn, hD', (by dsimp only; omega), (by dsimp only; omega), (by dsimp only; omega)⟩ rfl
        · have hD' := hD.setO (d := now + a.n) hkey
          repeat' (first
            | intro _
            | refine Ws ?_
            | (refine Wt ?_ ?_ <;> intro _ <;> try (exfalso; omega))
            | (refine Wu ?_ ?_ <;> intro _)
            | refine Wo.callI R ?_
            | refine Wv ?_
            | refine Wz ?_
            | fail)
          all_goals exact RdH (K', S', now, setT a.key (now + a.n) ts, due, i + 1) (by dsimp only; omega) ⟨C', hS.set _ _, hn, hD', (by dsimp only; omega), (by dsimp only; omega), (by dsimp only; omega)⟩ rfl
    · by_cases hstop : a.kind = 3
      · have hl2 := stopT_len (k := a.key) (ts := ts)
        by_cases hin : ∃ z ∈ ts, z.key = a.key
        · obtain ⟨z, hz, hzk⟩ := hin
          obtain ⟨K', S', R, C', T'⟩ := r_Stop1 hC hS hz (by omega)
          rw [hzk] at R C'
          by_cases hkey : a.key = key
          · have hD' : Dq key (-1) (stopT a.key ts) := by rw [hkey]; exact Dq.stop
            repeat' (first
              | intro _
              | refine Ws ?_
              | (refine Wt ?_ ?_ <;> intro _ <;> try (exfalso; omega))
              | (refine Wu ?_ ?_ <;> intro _)
              | refine Wo.callI R ?_
              | refine Wv ?_
              | refine Wz ?_
              | fail)
            all_goals exact RdH (K', S', now, stopT a.key ts, -1, i + 1) (by dsimp only; omega) ⟨C', hS.stop _, hn, hD', (by dsimp only; omega), (by dsimp only; omega), (by dsimp only; omega)⟩ rfl
          · have hD' := hD.stopO hkey
            repeat' (first
              | intro _
              | refine Ws ?_
              | (refine Wt ?_ ?_ <;> intro _ <;> try (exfalso; omega))
              | (refine Wu ?_ ?_ <;> intro _)
              | refine Wo.callI R ?_
              | refine Wv ?_
              | refine Wz ?_
              | fail)
            all_goals exact RdH (K', S', now, stopT a.key ts, due, i + 1) (by dsimp only; omega) ⟨C', hS.stop _, hn, hD', (by dsimp only; omega), (by dsimp only; omega), (by dsimp only; omega)⟩ rfl
        · have R := r_Stop0 hC (k := a.key) fun z hz e => hin ⟨z, hz, e⟩
          repeat' (first
            | intro _
            | refine Ws ?_
            | (refine Wt ?_ ?_ <;> intro _ <;> try (exfalso; omega))
            | (refine Wu ?_ ?_ <;> intro _)
            | refine Wo.callI R ?_
            | refine Wv ?_
            | refine Wz ?_
            | fail)
          all_goals exact RdH (K, S, now, ts, due, i + 1) (by dsimp only; omega) ⟨hC, hS, hn, hD, (by dsimp only; omega), (by dsimp only; omega), (by dsimp only; omega)⟩ rfl
      · by_cases hb : badN now a.n
        · have R := r_GoBad hC hn hb
          repeat' (first
            | intro _
            | refine Ws ?_
            | (refine Wt ?_ ?_ <;> intro _ <;> try (exfalso; omega))
            | (refine Wu ?_ ?_ <;> intro _)
            | refine Wo.callI R ?_
            | refine Wv ?_
            | refine Wz ?_
            | fail)
          all_goals exact RdH (K, S, now, ts, due, i + 1) (by dsimp only; omega) ⟨hC, hS, hn, hD, (by dsimp only; omega), (by dsimp only; omega), (by dsimp only; omega)⟩ rfl
        · obtain ⟨K', S', R, C', T'⟩ := r_Go hC hn hb hS (by omega)
          have RN := r_Now C'
          have hl2 := goT_len (now := now + a.n) (ts := ts)
          obtain ⟨g1, g2⟩ := hD.go (now := now + a.n) hS
          have hS' := hS.go (now := now + a.n)
          have hn2 : nowOk (now + a.n) := by unfold badN at hb; unfold nowOk; omega
          unfold badN at hb
          obtain ⟨out, hout⟩ : ∃ out, out = (goT (now + a.n) ts).1 := ⟨_, rfl⟩
          rw [← hout] at R g1 g2 hl2
          obtain ⟨m0, hm0⟩ : ∃ m0 : Nat, out.count key = m0 := ⟨_, rfl⟩
          rw [hm0] at g1 g2
          have hend : ∀ m k : Nat, k ≤ out.length → m = (out.take k).count key → ¬ (k < out.length) → m = m0 := fun m k h1 h2 h3 => by
            rw [h2, List.take_of_length_le (by omega), hm0]
          have hcl := List.count_le_length (a := key) (l := out)
          rcases goR_cases out with ⟨ho, hr⟩ | ⟨a1, r1, ho, hr⟩
          · rw [hr] at R
            have hlist : Sl.list (none : Sl Int) = out := ho.symm
            have hlist2 : (Sl.list (none : Sl Int)).length = out.length := by rw [hlist]
            repeat' (first
              | intro _
              | refine Ws ?_
              | (refine Wt ?_ ?_ <;> intro _ <;> try (exfalso; omega))
              | (refine Wu ?_ ?_ <;> intro _)
              | refine Wo.callI R ?_
              | refine Wv ?_
              | refine Wz ?_
              | fail)
            refine Wx.loop [0, 1, 4, 5, 6, 7, 8, 10, 13, 14, 15, 23, 24, 25, 26, 27, 28, 29, 30, 31, 32, 33, 34, 35, 36, 37, 38, 39, 40, 41, 42, 43, 44, 45, 46, 47, 62, 63, 64, 65, 66, 67, 68, 69, 70, 71, 72, 73, 74, 75, 76, 77, 78, 79, 80, 81, 82, 83, 84, 85, 86, 87, 88, 89, 90, 91, 92, 93, 94, 95, 96, 97, 98, 99, 100, 101, 102, 103, 104, 105, 106, 107, 108, 109, 110, 111, 112, 113, 114, 115, 116, 117, 118, 119, 120, 121, 122, 123, 124, 125, 126, 127, 128, 129, 130, 131, 132] [0, 1, 8, 16, 20, 43, 67, 88, 97, 106, 117] (fun (k, m) => [(9, .val (slV iv (none : Sl Int))), (11, .val (iv (m : Nat))), (12, .val (iv (k : Nat)))]) (fun (k, m) => []) (fun (k, m) => k ≤ out.length ∧ m = (out.take k).count key) (fun (k, m) => out.length - k) (0, 0) ⟨Nat.zero_le _, by simp⟩ (fun a x y hG => ?_)
            obtain ⟨k, m⟩ := a
            obtain ⟨h1, h2⟩ := hG
            dsimp only [List.cons_append, List.nil_append]
            have hmk : m ≤ k := by rw [h2]; exact Nat.le_trans List.count_le_length (List.length_take_le k out)
            rcases Nat.lt_or_ge k out.length with hk9 | hk9
            · obtain ⟨z, hz⟩ := at_some hk9
              have hcs := count_step (key := key) hz
              have hz9 : (Sl.list (none : Sl Int))[k]? = some z := by rw [hlist]; exact hz
              by_cases hzk : z = key
              · rw [if_pos hzk] at hcs
                repeat' (first
                  | intro _
                  | refine Ws ?_
                  | (refine Wt ?_ ?_ <;> intro _ <;> try (exfalso; omega))
                  | (refine Wu ?_ ?_ <;> intro _)
                  | refine Wv ?_
                  | refine Wz ?_
                  | fail)
                all_goals exact Rd (k + 1, m + 1) (by dsimp only; omega) ⟨(by dsimp only; omega), (by dsimp only; omega)⟩
              · rw [if_neg hzk] at hcs
                repeat' (first
                  | intro _
                  | refine Ws ?_
                  | (refine Wt ?_ ?_ <;> intro _ <;> try (exfalso; omega))
                  | (refine Wu ?_ ?_ <;> intro _)
                  | refine Wv ?_
                  | refine Wz ?_
                  | fail)
                all_goals exact Rd (k + 1, m) (by dsimp only; omega) ⟨(by dsimp only; omega), (by dsimp only; omega)⟩
            · have hm := hend m k h1 h2 (by omega)
              by_cases hcame : due ≥ 0 ∧ due ≤ now + a.n
              · obtain ⟨e1, e2⟩ := g1 hcame.1 hcame.2
                repeat' (first
                  | intro _
                  | refine Ws ?_
                  | (refine Wt ?_ ?_ <;> intro _ <;> try (exfalso; omega))
                  | (refine Wu ?_ ?_ <;> intro _)
                  | refine Wo.callI RN ?_
                  | refine Wv ?_
                  | refine Wz ?_
                  | fail)
                all_goals exact RdH (K', S', now + a.n, (goT (now + a.n) ts).2, -1, i + 1) (by dsimp only; omega) ⟨C', hS', hn2, e2, (by dsimp only; omega), (by dsimp only; omega), (by dsimp only; omega)⟩ rfl
              · obtain ⟨e1, e2⟩ := g2 hcame
                repeat' (first
                  | intro _
                  | refine Ws ?_
                  | (refine Wt ?_ ?_ <;> intro _ <;> try (exfalso; omega))
                  | (refine Wu ?_ ?_ <;> intro _)
                  | refine Wo.callI RN ?_
                  | refine Wv ?_
                  | refine Wz ?_
                  | fail)
                all_goals exact RdH (K', S', now + a.n, (goT (now + a.n) ts).2, due, i + 1) (by dsimp only; omega) ⟨C', hS', hn2, e2, (by dsimp only; omega), (by dsimp only; omega), (by dsimp only; omega)⟩ rfl
          · rw [hr] at R
            have hlist : Sl.list (some out) = out := rfl
            have hlist2 : (Sl.list (some out)).length = out.length := rfl
            repeat' (first
              | intro _
              | refine Ws ?_
              | (refine Wt ?_ ?_ <;> intro _ <;> try (exfalso; omega))
              | (refine Wu ?_ ?_ <;> intro _)
              | refine Wo.callIO R (fun _ => ?_)
              | refine Wv ?_
              | refine Wz ?_
              | fail)
            refine Wx.loop [0, 1, 4, 5, 6, 7, 8, 10, 13, 14, 15, 23, 24, 25, 26, 27, 28, 29, 30, 31, 32, 33, 34, 35, 36, 37, 38, 39, 40, 41, 42, 43, 44, 45, 46, 47, 62, 63, 64, 65, 66, 67, 68, 69, 70, 71, 72, 73, 74, 75, 76, 77, 78, 79, 80, 81, 82, 83, 84, 85, 86, 87, 88, 89, 90, 91, 92, 93, 94, 95, 96, 97, 98, 99, 100, 101, 102, 103, 104, 105, 106, 107, 108, 109, 110, 111, 112, 113, 114, 115, 116, 117, 118, 119, 120, 121, 122, 123, 124, 125, 126, 127, 128, 129, 130, 131, 132] [0, 1, 8, 16, 20, 43, 67, 88, 97, 106, 117] (fun (k, m) => [(9, .val (slV iv (some out))), (11, .val (iv (m : Nat))), (12, .val (iv (k : Nat)))]) (fun (k, m) => []) (fun (k, m) => k ≤ out.length ∧ m = (out.take k).count key) (fun (k, m) => out.length - k) (0, 0) ⟨Nat.zero_le _, by simp⟩ (fun a x y hG => ?_)
            obtain ⟨k, m⟩ := a
            obtain ⟨h1, h2⟩ := hG
            dsimp only [List.cons_append, List.nil_append]
            have hmk : m ≤ k := by rw [h2]; exact Nat.le_trans List.count_le_length (List.length_take_le k out)
            rcases Nat.lt_or_ge k out.length with hk9 | hk9
            · obtain ⟨z, hz⟩ := at_some hk9
              have hcs := count_step (key := key) hz
              have hz9 : (Sl.list (some out))[k]? = some z := by rw [hlist]; exact hz
              by_cases hzk : z = key
              · rw [if_pos hzk] at hcs
                repeat' (first
                  | intro _
                  | refine Ws ?_
                  | (refine Wt ?_ ?_ <;> intro _ <;> try (exfalso; omega))
                  | (refine Wu ?_ ?_ <;> intro _)
                  | refine Wv ?_
                  | refine Wz ?_
                  | fail)
                all_goals exact Rd (k + 1, m + 1) (by dsimp only; omega) ⟨(by dsimp only; omega), (by dsimp only; omega)⟩
              · rw [if_neg hzk] at hcs
                repeat' (first
                  | intro _
                  | refine Ws ?_
                  | (refine Wt ?_ ?_ <;> intro _ <;> try (exfalso; omega))
                  | (refine Wu ?_ ?_ <;> intro _)
                  | refine Wv ?_
                  | refine Wz ?_
                  | fail)
                all_goals exact Rd (k + 1, m) (by dsimp only; omega) ⟨(by dsimp only; omega), (by dsimp only; omega)⟩
            · have hm := hend m k h1 h2 (by omega)
              by_cases hcame : due ≥ 0 ∧ due ≤ now + a.n
              · obtain ⟨e1, e2⟩ := g1 hcame.1 hcame.2
                repeat' (first
                  | intro _
                  | refine Ws ?_
                  | (refine Wt ?_ ?_ <;> intro _ <;> try (exfalso; omega))
                  | (refine Wu ?_ ?_ <;> intro _)
                  | refine Wo.callI RN ?_
                  | refine Wv ?_
                  | refine Wz ?_
                  | fail)
                all_goals exact RdH (K', S', now + a.n, (goT (now + a.n) ts).2, -1, i + 1) (by dsimp only; omega) ⟨C', hS', hn2, e2, (by dsimp only; omega), (by dsimp only; omega), (by dsimp only; omega)⟩ rfl
              · obtain ⟨e1, e2⟩ := g2 hcame
                repeat' (first
                  | intro _
                  | refine Ws ?_
                  | (refine Wt ?_ ?_ <;> intro _ <;> try (exfalso; omega))
                  | (refine Wu ?_ ?_ <;> intro _)
                  | refine Wo.callI RN ?_
                  | refine Wv ?_
                  | refine Wz ?_
                  | fail)
                all_goals exact RdH (K', S', now + a.n, (goT (now + a.n) ts).2, due, i + 1) (by dsimp only; omega) ⟨C', hS', hn2, e2, (by dsimp only; omega), (by dsimp only; omega), (by dsimp only; omega)⟩ rfl
  · rcases hD with ⟨rfl, h1⟩ | ⟨h1, h2, h3⟩
    · have RD := r_Due0 hC h1
      repeat' (first
        | intro _
        | refine Ws ?_
        | (refine Wt ?_ ?_ <;> intro _ <;> try (exfalso; omega))
        | (refine Wu ?_ ?_ <;> intro _)
        | refine Wo.callI RD ?_
        | refine Wl.retE ?_
        | refine Wv ?_
        | refine Wz ?_
        | fail)
      all_goals rfl
    · have RD := r_Due1 hC h3 (by omega)
      repeat' (first
        | intro _
        | refine Ws ?_
        | (refine Wt ?_ ?_ <;> intro _ <;> try (exfalso; omega))
        | (refine Wu ?_ ?_ <;> intro _)
        | refine Wo.callI RD ?_
        | refine Wl.retE ?_
        | refine Wv ?_
        | refine Wz ?_
        | fail)
      all_goals rfl
end Go.Vi.CYtmcojibgjibkdaa
