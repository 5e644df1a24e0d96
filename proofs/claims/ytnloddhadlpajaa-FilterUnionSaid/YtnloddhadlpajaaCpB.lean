/-
  Names of streams and patterns.
-/
import Derived.Test.YtnloddhadlpajaaCpA
namespace Go.Vi.CYtnloddhadlpajaa
open Go.Vi Go.Proofs Go.Proofs.Ytnloddhadlpajaa
set_option linter.unusedVariables false
set_option maxHeartbeats 1000000
set_option maxRecDepth 100000
set_option linter.unusedSimpArgs false

theorem partsF_le (s : ByteArray) : ∀ m f i p, p ∈ partsF s f i m → p.size ≤ s.size
  | 0, f, i, p, h => by
    simp only [partsF, List.mem_singleton] at h; subst h; rw [ByteArray.size_extract]; omega
  | m + 1, f, i, p, h => by
    rw [partsF] at h
    cases hc : s[i]? with
    | none => rw [hc] at h; cases h
    | some c =>
      rw [hc] at h; simp only at h
      split at h
      · rcases List.mem_cons.1 h with h | h
        · subst h; rw [ByteArray.size_extract]; omega
        · exact partsF_le s m _ _ p h
      · exact partsF_le s m _ _ p h
theorem partsF_len (s : ByteArray) : ∀ m f i, (partsF s f i m).length ≤ m + 1
  | 0, f, i => by simp [partsF]
  | m + 1, f, i => by
    rw [partsF]
    cases hc : s[i]? with
    | none => simp
    | some c =>
      simp only
      have h1 := partsF_len s m (i + 1) (i + 1)
      have h2 := partsF_len s m f (i + 1)
      split <;> simp <;> omega
theorem partsF_pos (s : ByteArray) : ∀ m f i, i + m ≤ s.size → 1 ≤ (partsF s f i m).length
  | 0, f, i, _ => by simp [partsF]
  | m + 1, f, i, h => by
    rw [partsF]
    obtain ⟨c, hc⟩ := at_byte (s := s) (k := i) (by omega)
    rw [hc]
    simp only
    have h2 := partsF_pos s m f (i + 1) (by omega)
    split
    · simp
    · exact h2
theorem parts_le {s p : ByteArray} (h : p ∈ parts' s) : p.size ≤ s.size := partsF_le s _ _ _ p h
theorem parts_len (s : ByteArray) : (parts' s).length ≤ s.size + 1 := partsF_len s _ _ _
theorem parts_pos (s : ByteArray) : 1 ≤ (parts' s).length := partsF_pos s _ _ _ (by omega)
/-- the parts, as a slice -/
def partsS (s : ByteArray) : Sl ByteArray := some (parts' s)
theorem ps_le {s p : ByteArray} (h : p ∈ (partsS s).list) : p.size ≤ s.size := parts_le h
theorem ps_len (s : ByteArray) : (partsS s).list.length ≤ s.size + 1 := parts_len s
theorem ps_pos (s : ByteArray) : 1 ≤ (partsS s).list.length := parts_pos s
theorem r_partsS (s : ByteArray) (hs : s.size ≤ 32) (H : Hp) : Runs Try.prog pol 53 [.val (.str s)] H ([.val (slV VV.str (partsS s))], [], H) := r_parts s hs H
theorem r_RPartsS (s : ByteArray) (hs : s.size ≤ 32) (H : Hp) : Runs Try.prog pol 45 [.val (.str s)] H ([.val (slV VV.str (partsS s))], [], H) := r_RParts s hs H
def allBad (R : Nat → Nat → ByteArray → Bool) (l : List ByteArray) (i : Nat) : Option Unit := match l[i]? with
  | some p => if R i l.length p then none else some ()
  | none => none
def allB (R : Nat → Nat → ByteArray → Bool) (s : ByteArray) : Bool := decide (s.size ≤ 32) && (scan (allBad R (partsS s).list) (partsS s).list.length).isNone && decide ((partsS s).list.length ≤ 4)
theorem r_all (s : ByteArray) (fn : FuncId) (R : Nat → Nat → ByteArray → Bool)
    (hR : ∀ i n p, i < n → n ≤ 33 → p.size ≤ 32 → ∀ H, Runs Try.prog pol fn [.val (iv (i : Nat)), .val (iv (n : Nat)), .val (.str p)] H ([.val (.bool (R i n p))], [], H))
    (H : Hp) : Runs Try.prog pol 42 [.val (.str s), .val (.func fn [] [])] H ([.val (.bool (allB R s))], [], H) := by
  by_cases hs : s.size ≤ 32
  · have hl := ps_len s
    refine Runs.told (fn := Try.f42) (n := 31) [(0, .val (.str s)), (1, .val (.func fn [] []))] [(0, .gone 0), (1, .gone 0)] rfl Try.func42 rfl rfl (by kernel_rfl) rfl (by repeat' constructor) (by repeat' constructor) ?_
    repeat' (first
      | intro _
      | refine Ws ?_
      | (refine Wt ?_ ?_ <;> intro _ <;> try (exfalso; omega))
      | (refine Wu ?_ ?_ <;> intro _)
      | refine Wo.call0 (r_partsS _ hs) ?_
      | refine Wv ?_
      | refine Wz ?_
      | fail)
    refine Wx.loop [1, 5, 13, 14, 28, 29, 30] [0, 1, 12] (fun k => [(15, .val (iv (k : Nat)))]) (fun k => []) (fun k => k ≤ (partsS s).list.length ∧ ∀ j, j < k → allBad R (partsS s).list j = none) (fun k => (partsS s).list.length - k) 0 ⟨Nat.zero_le _, fun _ h => by omega⟩ (fun k x y hG => ?_)
    obtain ⟨h1, h2⟩ := hG
    dsimp only [List.cons_append, List.nil_append]
    rcases Nat.lt_or_ge k (partsS s).list.length with hk | hk
    · obtain ⟨z, hz⟩ := at_some hk
      have hzl := ps_le (List.mem_of_getElem? hz)
      have hRz := hR k (partsS s).list.length z hk (by omega) (by omega)
      repeat' (first
        | intro _
        | refine Ws ?_
        | (refine Wt ?_ ?_ <;> intro _ <;> try (exfalso; omega))
        | (refine Wu ?_ ?_ <;> intro _)
        | refine Wo.callB (hRz) (fun _ => ?_) (fun _ => ?_)
        | refine Wv ?_
        | refine Wz ?_
        | fail)
      all_goals first
        | exact Rd (k + 1) (by omega) ⟨by omega, none_succ h2 (by simp only [allBad, hz]; rw [if_pos (by assumption)])⟩
        | (have hb := scan_found (p := allBad R (partsS s).list) (b := ()) h2 (by simp only [allBad, hz]; rw [if_neg (by simp [*])]) (n := (partsS s).list.length) (by omega)
           simp [allB, hb]; done)
        | trace_state
    · repeat' (first
        | intro _
        | refine Ws ?_
        | (refine Wt ?_ ?_ <;> intro _ <;> try (exfalso; omega))
        | (refine Wu ?_ ?_ <;> intro _)
        | refine Wv ?_
        | refine Wz ?_
        | fail)
      all_goals
        have hb := scan_none (p := allBad R (partsS s).list) (n := (partsS s).list.length) (fun j hj => h2 j (by omega))
        first
          | (simp [allB, hb, hs]; omega)
          | trace_state
  · refine Runs.told (fn := Try.f42) (n := 31) [(0, .val (.str s)), (1, .val (.func fn [] []))] [(0, .gone 0), (1, .gone 0)] rfl Try.func42 rfl rfl (by kernel_rfl) rfl (by repeat' constructor) (by repeat' constructor) ?_
    repeat' (first
      | intro _
      | refine Ws ?_
      | (refine Wt ?_ ?_ <;> intro _ <;> try (exfalso; omega))
      | (refine Wu ?_ ?_ <;> intro _)
      | refine Wv ?_
      | refine Wz ?_
      | fail)
    simp [allB, hs]
def streamB (s : ByteArray) : Bool := allB (fun _ _ p => plainB p) s
def patR (i n : Nat) (x : ByteArray) : Bool := plainB x || decide (x = wStar) || (decide (x = wMany) && decide (i + 1 = n))
theorem patR_1 {i n : Nat} {z : ByteArray} (h : plainB z = true) : patR i n z = true := by simp [patR, h]
theorem patR_2 {i n : Nat} {z : ByteArray} (h : z = ⟨#[42]⟩) : patR i n z = true := by simp [patR, wStar, h]
theorem patR_3 {i n : Nat} {z : ByteArray} (h : z = ⟨#[42, 42]⟩) (h2 : i + 1 = n) : patR i n z = true := by simp [patR, wMany, h, h2]
theorem patR_4 {i n : Nat} {z : ByteArray} (h1 : plainB z = false) (h2 : ¬ z = ⟨#[42]⟩) (h3 : ¬ z = ⟨#[42, 42]⟩) : patR i n z = false := by
  simp [patR, wStar, wMany, h1, h2, h3]
theorem patR_5 {i n : Nat} {z : ByteArray} (h1 : plainB z = false) (h2 : ¬ z = ⟨#[42]⟩) (h3 : ¬ i + 1 = n) : patR i n z = false := by
  simp [patR, wStar, h1, h2, h3]
def patternB (s : ByteArray) : Bool := allB patR s
theorem r_Stream1 (i n : Nat) (p : ByteArray) (h : p.size ≤ 32) (H : Hp) : Runs Try.prog pol 65 [.val (iv (i : Nat)), .val (iv (n : Nat)), .val (.str p)] H ([.val (.bool (plainB p))], [], H) := by
  have hp : strOk p := by unfold strOk; omega
  refine Runs.told (fn := Try.f65) (n := 9) [(0, .val (iv (i : Nat))), (1, .val (iv (n : Nat))), (2, .val (.str p))] [(0, .gone 0), (1, .gone 0), (2, .gone 0)] rfl Try.func65 rfl rfl (by kernel_rfl) rfl (by repeat' constructor) (by repeat' constructor) ?_
  repeat' (first
    | intro _
    | refine Ws ?_
    | (refine Wt ?_ ?_ <;> intro _ <;> try (exfalso; omega))
    | (refine Wu ?_ ?_ <;> intro _)
    | refine Wo.call0 (r_plain _ hp) ?_
    | refine Wv ?_
    | refine Wz ?_
    | fail)
  all_goals rfl
theorem r_Pattern1 (i n : Nat) (p : ByteArray) (hi : i < n) (hn : n ≤ 33) (h : p.size ≤ 32) (H : Hp) : Runs Try.prog pol 43 [.val (iv (i : Nat)), .val (iv (n : Nat)), .val (.str p)] H ([.val (.bool (patR i n p))], [], H) := by
  have hp : strOk p := by unfold strOk; omega
  refine Runs.told (fn := Try.f43) (n := 23) [(0, .val (iv (i : Nat))), (1, .val (iv (n : Nat))), (2, .val (.str p))] [(0, .gone 0), (1, .gone 0), (2, .gone 0)] rfl Try.func43 rfl rfl (by kernel_rfl) rfl (by repeat' constructor) (by repeat' constructor) ?_
  repeat' (first
    | intro _
    | refine Ws ?_
    | (refine Wt ?_ ?_ <;> intro _ <;> try (exfalso; omega))
    | (refine Wu ?_ ?_ <;> intro _)
    | refine Wo.callB (r_plain _ hp) (fun _ => ?_) (fun _ => ?_)
    | refine Wv ?_
    | refine Wz ?_
    | fail)
  all_goals (first
    | rw [patR_1 (by assumption)]
    | rw [patR_2 (by assumption)]
    | rw [patR_3 (by assumption) (by omega)]
    | rw [patR_4 (by assumption) (by assumption) (by assumption)]
    | rw [patR_5 (by assumption) (by assumption) (by omega)]
    | trace_state)
theorem r_Stream (s : ByteArray) (H : Hp) : Runs Try.prog pol 51 [.val (.str s)] H ([.val (.bool (streamB s))], [], H) := by
  have hr := r_all s 65 (fun _ _ p => plainB p) (fun i n p h1 h2 h3 => r_Stream1 i n p h3)
  refine Runs.told (fn := Try.f51) (n := 5) [(0, .val (.str s))] [(0, .gone 0)] rfl Try.func51 rfl rfl (by kernel_rfl) rfl (by repeat' constructor) (by repeat' constructor) ?_
  repeat' (first
    | intro _
    | refine Ws ?_
    | (refine Wt ?_ ?_ <;> intro _ <;> try (exfalso; omega))
    | (refine Wu ?_ ?_ <;> intro _)
    | refine Wo.call0 (hr) ?_
    | refine Wv ?_
    | refine Wz ?_
    | fail)
  all_goals rfl
theorem r_Pattern (s : ByteArray) (H : Hp) : Runs Try.prog pol 23 [.val (.str s)] H ([.val (.bool (patternB s))], [], H) := by
  have hr := r_all s 43 patR r_Pattern1
  refine Runs.told (fn := Try.f23) (n := 5) [(0, .val (.str s))] [(0, .gone 0)] rfl Try.func23 rfl rfl (by kernel_rfl) rfl (by repeat' constructor) (by repeat' constructor) ?_
  repeat' (first
    | intro _
    | refine Ws ?_
    | (refine Wt ?_ ?_ <;> intro _ <;> try (exfalso; omega))
    | (refine Wu ?_ ?_ <;> intro _)
    | refine Wo.call0 (hr) ?_
    | refine Wv ?_
    | refine Wz ?_
    | fail)
  all_goals rfl
theorem r_RStream (s : ByteArray) (H : Hp) : Runs Try.prog pol 56 [.val (.str s)] H ([.val (.bool (streamB s))], [], H) := by
  unfold streamB
  by_cases hs : s.size ≤ 32
  · have hl := ps_len s
    refine Runs.told (fn := Try.f56) (n := 25) [(0, .val (.str s))] [(0, .gone 0)] rfl Try.func56 rfl rfl (by kernel_rfl) rfl (by repeat' constructor) (by repeat' constructor) ?_
    repeat' (first
      | intro _
      | refine Ws ?_
      | (refine Wt ?_ ?_ <;> intro _ <;> try (exfalso; omega))
      | (refine Wu ?_ ?_ <;> intro _)
      | refine Wo.call0 (r_RPartsS _ hs) ?_
      | refine Wv ?_
      | refine Wz ?_
      | fail)
    refine Wx.loop [3, 22, 23, 24] [0, 9] (fun (k, e) => [(4, .val (iv (k : Nat)))]) (fun (k, e) => []) (fun (k, e) => (k ≤ (partsS s).list.length ∧ e = ()) ∧ ∀ j, j < k → allBad (fun _ _ p => plainB p) (partsS s).list j = none) (fun (k, e) => (partsS s).list.length - k) (0, ()) ⟨⟨Nat.zero_le _, rfl⟩, fun j hj => absurd hj (by omega)⟩ (fun a x y hG => ?_)
    obtain ⟨k, e⟩ := a
    obtain ⟨h1, h2⟩ := hG
    dsimp only [List.cons_append, List.nil_append]
    rcases Nat.lt_or_ge k (partsS s).list.length with hk | hk
    · obtain ⟨z, hz⟩ := at_some hk
      have hzl := ps_le (List.mem_of_getElem? hz)
      have hzo : strOk z := by unfold strOk; omega
      repeat' (first
        | intro _
        | refine Ws ?_
        | (refine Wt ?_ ?_ <;> intro _ <;> try (exfalso; omega))
        | (refine Wu ?_ ?_ <;> intro _)
        | refine Wo.callB (r_RPlain z hzo) (fun _ => ?_) (fun _ => ?_)
        | refine Wv ?_
        | refine Wz ?_
        | fail)
      all_goals first
        | exact Rd (k + 1, ()) (by dsimp only; omega) ⟨⟨by dsimp only; omega, rfl⟩, none_succ h2 (by simp only [allBad, hz]; rw [if_pos (by assumption)])⟩
        | (have hb := scan_found (p := allBad (fun _ _ p => plainB p) (partsS s).list) (b := ()) h2 (by simp only [allBad, hz]; rw [if_neg (by simp [*])]) (n := (partsS s).list.length) (by omega)
           simp [allB, hb]; done)
        | trace_state
    · repeat' (first
        | intro _
        | refine Ws ?_
        | (refine Wt ?_ ?_ <;> intro _ <;> try (exfalso; omega))
        | (refine Wu ?_ ?_ <;> intro _)
        | refine Wv ?_
        | refine Wz ?_
        | fail)
      all_goals
        have hb := scan_none (p := allBad (fun _ _ p => plainB p) (partsS s).list) (n := (partsS s).list.length) (fun j hj => h2 j (by omega))
        first
          | (simp [allB, hb, hs]; omega)
          | trace_state
  · refine Runs.told (fn := Try.f56) (n := 25) [(0, .val (.str s))] [(0, .gone 0)] rfl Try.func56 rfl rfl (by kernel_rfl) rfl (by repeat' constructor) (by repeat' constructor) ?_
    repeat' (first
      | intro _
      | refine Ws ?_
      | (refine Wt ?_ ?_ <;> intro _ <;> try (exfalso; omega))
      | (refine Wu ?_ ?_ <;> intro _)
      | refine Wv ?_
      | refine Wz ?_
      | fail)
    simp [allB, hs]
theorem r_RPattern (s : ByteArray) (H : Hp) : Runs Try.prog pol 24 [.val (.str s)] H ([.val (.bool (patternB s))], [], H) := by
  unfold patternB
  by_cases hs : s.size ≤ 32
  · have hl := ps_len s
    refine Runs.told (fn := Try.f24) (n := 46) [(0, .val (.str s))] [(0, .gone 0)] rfl Try.func24 rfl rfl (by kernel_rfl) rfl (by repeat' constructor) (by repeat' constructor) ?_
    repeat' (first
      | intro _
      | refine Ws ?_
      | (refine Wt ?_ ?_ <;> intro _ <;> try (exfalso; omega))
      | (refine Wu ?_ ?_ <;> intro _)
      | refine Wo.call0 (r_RPartsS _ hs) ?_
      | refine Wv ?_
      | refine Wz ?_
      | fail)
    refine Wx.loop [3, 43, 44, 45] [0, 9] (fun (k, e) => [(4, .val (iv (k : Nat)))]) (fun (k, e) => []) (fun (k, e) => (k ≤ (partsS s).list.length ∧ e = ()) ∧ ∀ j, j < k → allBad patR (partsS s).list j = none) (fun (k, e) => (partsS s).list.length - k) (0, ()) ⟨⟨Nat.zero_le _, rfl⟩, fun j hj => absurd hj (by omega)⟩ (fun a x y hG => ?_)
    obtain ⟨k, e⟩ := a
    obtain ⟨h1, h2⟩ := hG
    dsimp only [List.cons_append, List.nil_append]
    rcases Nat.lt_or_ge k (partsS s).list.length with hk | hk
    · obtain ⟨z, hz⟩ := at_some hk
      have hzl := ps_le (List.mem_of_getElem? hz)
      have hzo : strOk z := by unfold strOk; omega
      repeat' (first
        | intro _
        | refine Ws ?_
        | (refine Wt ?_ ?_ <;> intro _ <;> try (exfalso; omega))
        | (refine Wu ?_ ?_ <;> intro _)
        | refine Wo.callB (r_RPlain z hzo) (fun _ => ?_) (fun _ => ?_)
        | refine Wv ?_
        | refine Wz ?_
        | fail)
      all_goals first
        | exact Rd (k + 1, ()) (by dsimp only; omega) ⟨⟨by dsimp only; omega, rfl⟩, none_succ h2 (by
            simp only [allBad, hz]
            first
              | rw [patR_1 (by assumption)]; rfl
              | rw [patR_2 (by assumption)]; rfl
              | (rw [patR_3 (by assumption) (by omega)]; rfl))⟩
        | (have hf : patR k (partsS s).list.length z = false := by
             first
               | exact patR_4 (by assumption) (by assumption) (by assumption)
               | exact patR_5 (by assumption) (by assumption) (by omega)
           have hb := scan_found (p := allBad patR (partsS s).list) (b := ()) h2 (by simp only [allBad, hz, hf]; rfl) (n := (partsS s).list.length) (by omega)
           simp [allB, hb]; done)
        | trace_state
    · repeat' (first
        | intro _
        | refine Ws ?_
        | (refine Wt ?_ ?_ <;> intro _ <;> try (exfalso; omega))
        | (refine Wu ?_ ?_ <;> intro _)
        | refine Wv ?_
        | refine Wz ?_
        | fail)
      all_goals
        have hb := scan_none (p := allBad patR (partsS s).list) (n := (partsS s).list.length) (fun j hj => h2 j (by omega))
        first
          | (simp [allB, hb, hs]; omega)
          | trace_state
  · refine Runs.told (fn := Try.f24) (n := 46) [(0, .val (.str s))] [(0, .gone 0)] rfl Try.func24 rfl rfl (by kernel_rfl) rfl (by repeat' constructor) (by repeat' constructor) ?_
    repeat' (first
      | intro _
      | refine Ws ?_
      | (refine Wt ?_ ?_ <;> intro _ <;> try (exfalso; omega))
      | (refine Wu ?_ ?_ <;> intro _)
      | refine Wv ?_
      | refine Wz ?_
      | fail)
    simp [allB, hs]
end Go.Vi.CYtnloddhadlpajaa
