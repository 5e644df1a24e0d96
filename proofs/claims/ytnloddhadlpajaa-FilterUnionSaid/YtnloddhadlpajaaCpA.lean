/-
  Texts and their parts.
-/
import Derived.Test.YtnloddhadlpajaaV4
import Derived.Test.YtnloddhadlpajaaRows
import Derived.KernelRfl
import Derived.Lib.SlicesCompact
namespace Go.Vi.CYtnloddhadlpajaa
open Go.Vi Go.Proofs Go.Proofs.Ytnloddhadlpajaa
set_option linter.unusedVariables false
set_option maxHeartbeats 1000000
set_option maxRecDepth 100000
set_option linter.unusedSimpArgs false

abbrev iv (n : Int) : VV := .int .i64 n
/-- numbers that a word bears -/
def w64 (n : Int) : Prop := -9223372036854775808 ≤ n ∧ n ≤ 9223372036854775807
/-- a slice that is not too long -/
def Sl.ok {α : Type} (s : Sl α) : Prop := s.list.length ≤ 9223372036854775807
def strOk (s : ByteArray) : Prop := s.size ≤ 140737488351232

def dyn05 (f : FuncId) : Bool := [3,4,5,6,7].contains f
def mode05 (f : FuncId) (i : Nat) : Nat := if f = 47 then (if i = 0 then 2 else 0) else if f = 49 then (if i = 0 then 1 else 0) else 0
def keys05 (f : FuncId) (d : Nat) : List Nat := if f = 26 then (if d = 1000003 then [3] else []) else if f = 14 then (if d = 1000018 then [3] else []) else []
def frz09 (f : FuncId) : Bool := [53,52,62,45,26,11,22,14].contains f
/-- texts put in order one by one -/
def putB (p : ByteArray) : List ByteArray → List ByteArray
  | [] => [p]
  | x :: r => if Op.bytesLess p.toList x.toList then p :: x :: r else x :: putB p r
def sortB : List ByteArray → List ByteArray
  | [] => []
  | x :: r => putB x (sortB r)
def strsV : List VV → Option (List ByteArray)
  | [] => some []
  | .str s :: r => (strsV r).map (s :: ·)
  | _ => none
/-- what slices.SortFunc does of a row of texts, by pattern.Compare -/
def sortX : List RV → Option (List RV × List RV)
  | [.own es 1, .val (.func f [] [])] => if f = 48 ∧ es.length < 4611686018427387904 then match strsV es with
    | some (x :: r) => some ([], [.own ((sortB (x :: r)).map .str) 1])
    | _ => none else none
  | [.val (.lst []), .val (.func f [] [])] => if f = 48 then some ([], []) else none
  | _ => none
/-- .. and slices.Compact -/
def ofL (l : List UInt8) : ByteArray := ⟨l.toArray⟩
def compB (l : List ByteArray) : List ByteArray := (Lib.compact (l.map ByteArray.toList)).map ofL
def compX : List RV → Option (List RV × List RV)
  | [.own es 1] => if es.length < 4611686018427387904 then match strsV es with
    | some (x :: r) => some ([.own ((compB (x :: r)).map .str) 1], [])
    | _ => none else none
  | [.full []] => some ([.full []], [])
  | _ => none
def ext09 (f : FuncId) : Option (List RV → Option (List RV × List RV)) := if f = 47 then some sortX else if f = 49 then some compX else none
def pol : Pol := ⟨fun _ => true, mode05, keys05, dyn05, ext09, frz09⟩
def wStar : ByteArray := ⟨#[42]⟩
def wMany : ByteArray := ⟨#[42, 42]⟩
def chP (c : UInt8) : Bool := (decide (97 ≤ c.toNat) && decide (c.toNat ≤ 122)) || (decide (48 ≤ c.toNat) && decide (c.toNat ≤ 57)) || decide (c.toNat = 45) || decide (c.toNat = 95)
def chPBad (s : ByteArray) (i : Nat) : Option Unit := match s[i]? with
  | some c => if chP c then none else some ()
  | none => none
def plainB (s : ByteArray) : Bool := decide (1 ≤ s.size) && (scan (chPBad s) s.size).isNone
theorem r_plain (s : ByteArray) (hs : strOk s) (H : Hp) : Runs Try.prog pol 44 [.val (.str s)] H ([.val (.bool (plainB s))], [], H) := by
  unfold strOk at hs
  refine Runs.told (fn := Try.f44) (n := 33) [(0, .val (.str s))] [(0, .gone 0)] rfl Try.func44 rfl rfl (by kernel_rfl) rfl (by repeat' constructor) (by repeat' constructor) ?_
  repeat' (first
    | intro _
    | refine Ws ?_
    | (refine Wt ?_ ?_ <;> intro _ <;> try (exfalso; omega))
    | (refine Wu ?_ ?_ <;> intro _)
    | refine Wv ?_
    | refine Wz ?_
    | fail)
  · rename_i h; subst h; rfl
  · rename_i hne
    have hpos : 1 ≤ s.size := by
      rcases Nat.eq_zero_or_pos s.size with h | h
      · exact absurd (size_zero h) hne
      · exact h
    refine Wx.loop [0, 8] [0] (fun k => [(9, .val (iv (k : Nat)))]) (fun k => []) (fun k => k ≤ s.size ∧ ∀ j, j < k → chPBad s j = none) (fun k => s.size - k) 0 ⟨Nat.zero_le _, fun _ h => by omega⟩ (fun k x y hG => ?_)
    obtain ⟨h1, h2⟩ := hG
    dsimp only [List.cons_append, List.nil_append]
    rcases Nat.lt_or_ge k s.size with hk | hk
    · obtain ⟨c, hc⟩ := at_byte hk
      repeat' (first
        | intro _
        | refine Ws ?_
        | (refine Wt ?_ ?_ <;> intro _ <;> try (exfalso; omega))
        | (refine Wu ?_ ?_ <;> intro _)
        | refine Wv ?_
        | refine Wz ?_
        | fail)
      all_goals first
        | exact Rd (k + 1) (by omega) ⟨by omega, none_succ h2 (by simp only [chPBad, hc]; rw [if_pos (by simp [chP]; omega)])⟩
        | (have hb := scan_found (p := chPBad s) (b := ()) h2 (by simp only [chPBad, hc]; rw [if_neg (by simp [chP]; omega)]) (n := s.size) (by omega)
           simp [plainB, hb]; done)
        | trace_state
    · repeat' (first
        | intro _
        | refine Ws ?_
        | (refine Wt ?_ ?_ <;> intro _ <;> try (exfalso; omega))
        | (refine Wu ?_ ?_ <;> intro _)
        | refine Wv ?_
        | refine Wz ?_
        | fail)
      have hb := scan_none (p := chPBad s) (n := s.size) (fun j hj => h2 j (by omega))
      simp [plainB, hb]; omega
theorem r_RPlain (s : ByteArray) (hs : strOk s) (H : Hp) : Runs Try.prog pol 46 [.val (.str s)] H ([.val (.bool (plainB s))], [], H) := by
  unfold strOk at hs
  refine Runs.told (fn := Try.f46) (n := 39) [(0, .val (.str s))] [(0, .gone 0)] rfl Try.func46 rfl rfl (by kernel_rfl) rfl (by repeat' constructor) (by repeat' constructor) ?_
  repeat' (first
    | intro _
    | refine Ws ?_
    | (refine Wt ?_ ?_ <;> intro _ <;> try (exfalso; omega))
    | (refine Wu ?_ ?_ <;> intro _)
    | refine Wv ?_
    | refine Wz ?_
    | fail)
  refine Wx.loop [0, 36, 37, 38] [0] (fun k => [(3, .val (iv (k : Nat)))]) (fun k => []) (fun k => k ≤ s.size ∧ ∀ j, j < k → chPBad s j = none) (fun k => s.size - k) 0 ⟨Nat.zero_le _, fun _ h => by omega⟩ (fun k x y hG => ?_)
  obtain ⟨h1, h2⟩ := hG
  dsimp only [List.cons_append, List.nil_append]
  rcases Nat.lt_or_ge k s.size with hk | hk
  · obtain ⟨c, hc⟩ := at_byte hk
    repeat' (first
      | intro _
      | refine Ws ?_
      | (refine Wt ?_ ?_ <;> intro _ <;> try (exfalso; omega))
      | (refine Wu ?_ ?_ <;> intro _)
      | refine Wv ?_
      | refine Wz ?_
      | fail)
    all_goals first
      | exact Rd (k + 1) (by omega) ⟨by omega, none_succ h2 (by simp only [chPBad, hc]; rw [if_pos (by simp [chP]; omega)])⟩
      | (have hb := scan_found (p := chPBad s) (b := ()) h2 (by simp only [chPBad, hc]; rw [if_neg (by simp [chP]; omega)]) (n := s.size) (by omega)
         simp [plainB, hb]; done)
      | trace_state
  · repeat' (first
      | intro _
      | refine Ws ?_
      | (refine Wt ?_ ?_ <;> intro _ <;> try (exfalso; omega))
      | (refine Wu ?_ ?_ <;> intro _)
      | refine Wv ?_
      | refine Wz ?_
      | fail)
    all_goals (
      have hb := scan_none (p := chPBad s) (n := s.size) (fun j hj => h2 j (by omega))
      by_cases h1 : 1 ≤ s.size
      · first
          | (exfalso; omega)
          | (simp [plainB, hb, h1]; done)
      · first
          | (exfalso; omega)
          | (simp [plainB, hb, h1]; done))
/-- the parts from place i on; the part under way began at place f -/
def partsF (s : ByteArray) : Nat → Nat → Nat → List ByteArray
  | f, i, 0 => [s.extract f s.size]
  | f, i, m + 1 => match s[i]? with
    | some c => if c.toNat = 47 then s.extract f i :: partsF s (i + 1) (i + 1) m else partsF s f (i + 1) m
    | none => []
def parts' (s : ByteArray) : List ByteArray := partsF s 0 0 s.size
theorem okStr (a : ByteArray) : okElem 1 (VV.str a) = true := rfl
theorem r_parts (s : ByteArray) (hs : s.size ≤ 32) (H : Hp) : Runs Try.prog pol 53 [.val (.str s)] H ([.val (.lst ((parts' s).map VV.str))], [], H) := by
  refine Runs.told (fn := Try.f53) (n := 31) [(0, .val (.str s))] [(0, .gone 0)] rfl Try.func53 rfl rfl (by kernel_rfl) rfl (by repeat' constructor) (by repeat' constructor) ?_
  repeat' (first
    | intro _
    | refine Ws ?_
    | (refine Wt ?_ ?_ <;> intro _ <;> try (exfalso; omega))
    | (refine Wu ?_ ?_ <;> intro _)
    | refine Wv ?_
    | refine Wz ?_
    | fail)
  refine Wx.loop [0, 2, 7, 25, 26, 27, 28, 29, 30] [29, 30] (fun (k, f, e, g, es, m) => [(8, .val (iv (k : Nat))), (4, .val (iv (f : Nat))), (3, bif e then .val .nils else .own 21 g 0 m 1)]) (fun (k, f, e, g, es, m) => [((bif e then 0 else 21), bif e then .gone 0 else .row g (es.map VV.str) 1 false)]) (fun (k, f, e, g, es, m) => (k ≤ s.size ∧ f ≤ k ∧ m = es.length ∧ m ≤ k) ∧ es ++ partsF s f k (s.size - k) = parts' s ∧ (e = true → es = [])) (fun (k, f, e, g, es, m) => s.size - k) (0, 0, true, 0, ([] : List ByteArray), 0) ⟨⟨Nat.zero_le _, Nat.le_refl _, rfl, Nat.le_refl _⟩, rfl, fun _ => rfl⟩ (fun a x y hG => ?_)
  obtain ⟨k, f, e, g, es, m⟩ := a
  obtain ⟨h1, h2, h3⟩ := hG
  dsimp only [List.cons_append, List.nil_append]
  obtain ⟨hk0, hf, rfl, hmk⟩ := h1
  rcases Nat.lt_or_ge k s.size with hk | hk
  · obtain ⟨c, hc⟩ := at_byte hk
    have hn : s.size - k = (s.size - (k + 1)) + 1 := by omega
    rw [hn, partsF, hc] at h2
    simp only at h2
    cases e <;> dsimp only [cond]
    · repeat' (first
        | intro _
        | refine Ws ?_
        | (refine Wt ?_ ?_ <;> intro _ <;> try (exfalso; omega))
        | (refine Wu ?_ ?_ <;> intro _)
        | refine Wo.scutB ?_
        | refine Wv ?_
        | refine Wz ?_
        | fail)
      · rename_i h47
        rw [if_pos (by omega)] at h2
        exact Rd (k + 1, k + 1, false, _, es.take es.length ++ [s.extract f k], es.length + 1) (by dsimp only; omega) ⟨⟨by dsimp only; omega, Nat.le_refl _, by simp, by dsimp only; omega⟩, by rw [List.take_length]; show es ++ [_] ++ _ = _; rw [List.append_assoc]; exact h2, fun h => by cases h⟩
      · rename_i h47
        rw [if_neg (by omega)] at h2
        exact Rd (k + 1, f, false, g, es, es.length) (by dsimp only; omega) ⟨⟨by dsimp only; omega, by dsimp only; omega, rfl, by dsimp only; omega⟩, h2, h3⟩
    · have he0 := h3 rfl
      subst he0
      repeat' (first
        | intro _
        | refine Ws ?_
        | (refine Wt ?_ ?_ <;> intro _ <;> try (exfalso; omega))
        | (refine Wu ?_ ?_ <;> intro _)
        | refine Wo.scutB ?_
        | refine Wo.app1n (enc := VV.str) okStr (fun g4 => ?_)
        | refine Wv ?_
        | refine Wz ?_
        | fail)
      · rename_i h47
        rw [if_pos (by omega)] at h2
        exact Rd (k + 1, k + 1, false, _, [s.extract f k], 1) (by dsimp only; omega) ⟨⟨by dsimp only; omega, Nat.le_refl _, rfl, by dsimp only; omega⟩, h2, fun h => by cases h⟩
      · rename_i h47
        rw [if_neg (by omega)] at h2
        exact Rd (k + 1, f, true, g, [], 0) (by dsimp only; omega) ⟨⟨by dsimp only; omega, by dsimp only; omega, rfl, by dsimp only; omega⟩, h2, fun _ => rfl⟩
  · have hkk : k = s.size := by omega
    subst hkk
    rw [Nat.sub_self, partsF] at h2
    cases e <;> dsimp only [cond]
    · repeat' (first
        | intro _
        | refine Ws ?_
        | (refine Wt ?_ ?_ <;> intro _ <;> try (exfalso; omega))
        | (refine Wu ?_ ?_ <;> intro _)
        | refine Wo.scutLo ?_
        | refine Wv ?_
        | refine Wz ?_
        | fail)
      refine Wl.retF ?_
      rw [List.take_length, ← h2]; rfl
    · have he0 := h3 rfl
      subst he0
      repeat' (first
        | intro _
        | refine Ws ?_
        | (refine Wt ?_ ?_ <;> intro _ <;> try (exfalso; omega))
        | (refine Wu ?_ ?_ <;> intro _)
        | refine Wo.scutLo ?_
        | refine Wo.app1n (enc := VV.str) okStr (fun g4 => ?_)
        | refine Wv ?_
        | refine Wz ?_
        | fail)
      refine Wl.retF ?_
      rw [← h2]; rfl
theorem r_Split (s : ByteArray) (hs : s.size ≤ 32) (H : Hp) : Runs Try.prog pol 62 [.val (.str s), .val (.int .u8 47)] H ([.val (.lst ((parts' s).map VV.str))], [], H) := by
  refine Runs.told (fn := Try.f62) (n := 34) [(0, .val (.str s)), (1, .val (.int .u8 47))] [(0, .gone 0), (1, .gone 0)] rfl Try.func62 rfl rfl (by kernel_rfl) rfl (by repeat' constructor) (by repeat' constructor) ?_
  repeat' (first
    | intro _
    | refine Ws ?_
    | (refine Wt ?_ ?_ <;> intro _ <;> try (exfalso; omega))
    | (refine Wu ?_ ?_ <;> intro _)
    | refine Wv ?_
    | refine Wz ?_
    | fail)
  refine Wx.loop [0, 1, 4, 30, 31, 32, 33] [1, 32, 33] (fun (k, f, w, e, g, es, m) => [(7, .val (iv (k : Nat))), (6, .val (.str w)), (5, bif e then .val .nils else .own 22 g 0 m 1)]) (fun (k, f, w, e, g, es, m) => [((bif e then 0 else 22), bif e then .gone 0 else .row g (es.map VV.str) 1 false)]) (fun (k, f, w, e, g, es, m) => (k ≤ s.size ∧ f ≤ k ∧ m = es.length ∧ m ≤ k ∧ w = s.extract f k) ∧ es ++ partsF s f k (s.size - k) = parts' s ∧ (e = true → es = [])) (fun (k, f, w, e, g, es, m) => s.size - k) (0, 0, ⟨#[]⟩, true, 0, ([] : List ByteArray), 0) ⟨⟨Nat.zero_le _, Nat.le_refl _, rfl, Nat.le_refl _, extract_nil.symm⟩, rfl, fun _ => rfl⟩ (fun a x y hG => ?_)
  obtain ⟨k, f, w, e, g, es, m⟩ := a
  obtain ⟨h1, h2, h3⟩ := hG
  dsimp only [List.cons_append, List.nil_append]
  obtain ⟨hk0, hf, rfl, hmk, rfl⟩ := h1
  rcases Nat.lt_or_ge k s.size with hk | hk
  · obtain ⟨c, hc⟩ := at_byte hk
    have hn : s.size - k = (s.size - (k + 1)) + 1 := by omega
    rw [hn, partsF, hc] at h2
    simp only at h2
    have hcat : s.extract f k ++ s.extract ((k : Nat) : Int).toNat (((k : Nat) : Int) + 1).toNat = s.extract f (k + 1) := by
      rw [show ((k : Nat) : Int).toNat = k by omega, show (((k : Nat) : Int) + 1).toNat = k + 1 by omega, extract_add hf (by omega)]
    have hsz : (s.extract f k).size + (s.extract ((k : Nat) : Int).toNat (((k : Nat) : Int) + 1).toNat).size ≤ 140737488355328 := by
      rw [ByteArray.size_extract, ByteArray.size_extract]; omega
    cases e <;> dsimp only [cond]
    · repeat' (first
        | intro _
        | refine Ws ?_
        | (refine Wt ?_ ?_ <;> intro _ <;> try (exfalso; omega))
        | (refine Wu ?_ ?_ <;> intro _)
        | refine Wo.scutB ?_
        | refine Wo.cat ?_ (hb := hsz)
        | refine Wv ?_
        | refine Wz ?_
        | fail)
      · rename_i h47
        rw [if_pos (by omega)] at h2
        exact Rd (k + 1, k + 1, ⟨#[]⟩, false, _, es.take es.length ++ [s.extract f k], es.length + 1) (by dsimp only; omega) ⟨⟨by dsimp only; omega, Nat.le_refl _, by simp, by dsimp only; omega, extract_nil.symm⟩, by rw [List.take_length]; show es ++ [_] ++ _ = _; rw [List.append_assoc]; exact h2, fun h => by cases h⟩
      · rename_i h47
        rw [if_neg (by omega)] at h2
        exact Rd (k + 1, f, _, false, g, es, es.length) (by dsimp only; omega) ⟨⟨by dsimp only; omega, by dsimp only; omega, rfl, by dsimp only; omega, hcat⟩, h2, h3⟩
    · have he0 := h3 rfl
      subst he0
      repeat' (first
        | intro _
        | refine Ws ?_
        | (refine Wt ?_ ?_ <;> intro _ <;> try (exfalso; omega))
        | (refine Wu ?_ ?_ <;> intro _)
        | refine Wo.scutB ?_
        | refine Wo.cat ?_ (hb := hsz)
        | refine Wo.app1n (enc := VV.str) okStr (fun g4 => ?_)
        | refine Wv ?_
        | refine Wz ?_
        | fail)
      · rename_i h47
        rw [if_pos (by omega)] at h2
        exact Rd (k + 1, k + 1, ⟨#[]⟩, false, _, [s.extract f k], 1) (by dsimp only; omega) ⟨⟨by dsimp only; omega, Nat.le_refl _, rfl, by dsimp only; omega, extract_nil.symm⟩, h2, fun h => by cases h⟩
      · rename_i h47
        rw [if_neg (by omega)] at h2
        exact Rd (k + 1, f, _, true, g, [], 0) (by dsimp only; omega) ⟨⟨by dsimp only; omega, by dsimp only; omega, rfl, by dsimp only; omega, hcat⟩, h2, fun _ => rfl⟩
  · have hkk : k = s.size := by omega
    subst hkk
    rw [Nat.sub_self, partsF] at h2
    cases e <;> dsimp only [cond]
    · repeat' (first
        | intro _
        | refine Ws ?_
        | (refine Wt ?_ ?_ <;> intro _ <;> try (exfalso; omega))
        | (refine Wu ?_ ?_ <;> intro _)
        | refine Wv ?_
        | refine Wz ?_
        | fail)
      refine Wl.retF ?_
      rw [List.take_length, ← h2]; rfl
    · have he0 := h3 rfl
      subst he0
      repeat' (first
        | intro _
        | refine Ws ?_
        | (refine Wt ?_ ?_ <;> intro _ <;> try (exfalso; omega))
        | (refine Wu ?_ ?_ <;> intro _)
        | refine Wo.app1n (enc := VV.str) okStr (fun g4 => ?_)
        | refine Wv ?_
        | refine Wz ?_
        | fail)
      refine Wl.retF ?_
      rw [← h2]; rfl
theorem r_RParts (s : ByteArray) (hs : s.size ≤ 32) (H : Hp) : Runs Try.prog pol 45 [.val (.str s)] H ([.val (.lst ((parts' s).map VV.str))], [], H) := by
  refine Runs.told (fn := Try.f45) (n := 5) [(0, .val (.str s))] [(0, .gone 0)] rfl Try.func45 rfl rfl (by kernel_rfl) rfl (by repeat' constructor) (by repeat' constructor) ?_
  repeat' (first
    | intro _
    | refine Ws ?_
    | (refine Wt ?_ ?_ <;> intro _ <;> try (exfalso; omega))
    | (refine Wu ?_ ?_ <;> intro _)
    | refine Wo.call0 (r_Split _ hs) ?_
    | refine Wv ?_
    | refine Wz ?_
    | fail)
  all_goals first
    | rfl
    | trace_state
end Go.Vi.CYtnloddhadlpajaa
