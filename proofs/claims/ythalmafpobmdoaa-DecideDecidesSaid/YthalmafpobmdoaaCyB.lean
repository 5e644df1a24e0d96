/-
  What an expression comes to: the program.
-/
import Derived.Test.YthalmafpobmdoaaCyA
import Derived.Test.YthalmafpobmdoaaCxG
namespace Go.Vi.CYthalmafpobmdoaa
open Go.Vi Go.Proofs Go.Proofs.Ythalmafpobmdoaa
set_option linter.unusedVariables false
set_option maxHeartbeats 8000000
set_option maxRecDepth 100000
set_option linter.unusedSimpArgs false

def valBad (l : List Int) (i : Nat) : Option Unit := match l[i]? with
  | some n => if valueOk n then none else some ()
  | none => none
def valuesOk (l : List Int) : Bool := (scan (valBad l) l.length).isNone
theorem valuesOk_mem {l : List Int} (h : valuesOk l = true) : ∀ (i : Nat) (n : Int), l[i]? = some n → valueOk n = true := by
  intro i n hn
  unfold valuesOk at h
  have hs : scan (valBad l) l.length = none := by simpa using h
  have hi : i < l.length := by
    rcases Nat.lt_or_ge i l.length with h | h
    · exact h
    · rw [List.getElem?_eq_none h] at hn; cases hn
  have := scan_ok hs i hi
  unfold valBad at this
  rw [hn] at this
  simp only at this
  split at this
  · assumption
  · cases this
theorem r_evalues (s : Sl Int) (hs : Sl.ok s) (H : Hp) : Runs Try.prog pol 52 [.val (slV iv s)] H ([.val (.bool (valuesOk s.list))], [], H) := by
  unfold Sl.ok at hs
  refine Runs.told (fn := Try.f52) (n := 15) [(0, .val (slV iv s))] [(0, .gone 0)] rfl Try.func52 rfl rfl (by kernel_rfl) rfl (by repeat' constructor) (by repeat' constructor) ?_
  repeat' (first
    | intro _
    | refine Ws ?_
    | (refine Wt ?_ ?_ <;> intro _ <;> try (exfalso; omega))
    | (refine Wu ?_ ?_ <;> intro _)
    | refine Wv ?_
    | refine Wz ?_
    | fail)
  refine Wx.loop [5, 6] [0] (fun k => [(7, .val (iv (k : Nat)))]) (fun k => []) (fun k => k ≤ s.list.length ∧ ∀ j, j < k → valBad s.list j = none) (fun k => s.list.length - k) 0 ⟨Nat.zero_le _, fun _ h => by omega⟩ (fun k x y hG => ?_)
  obtain ⟨h1, h2⟩ := hG
  dsimp only [List.cons_append, List.nil_append]
  rcases Nat.lt_or_ge k s.list.length with hk | hk
  · obtain ⟨z, hz⟩ := at_some hk
    repeat' (first
      | intro _
      | refine Ws ?_
      | (refine Wt ?_ ?_ <;> intro _ <;> try (exfalso; omega))
      | (refine Wu ?_ ?_ <;> intro _)
      | refine Wo.callB (r_value3 _) (fun _ => ?_) (fun _ => ?_)
      | refine Wv ?_
      | refine Wz ?_
      | fail)
    · exact Rd (k + 1) (by omega) ⟨by omega, none_succ h2 (by simp only [valBad, hz]; rw [if_pos (by assumption)])⟩
    · have hb := scan_found (p := valBad s.list) (b := ()) h2 (by simp only [valBad, hz]; rw [if_neg (by simp [*])]) (n := s.list.length) (by omega)
      simp [valuesOk, hb]
  · repeat' (first
      | intro _
      | refine Ws ?_
      | (refine Wt ?_ ?_ <;> intro _ <;> try (exfalso; omega))
      | (refine Wu ?_ ?_ <;> intro _)
      | refine Wv ?_
      | refine Wz ?_
      | fail)
    have hb := scan_none (p := valBad s.list) (n := s.list.length) (fun j hj => h2 j (by omega))
    simp [valuesOk, hb]

def madeS (op : Int) : List Int → Option Int
  | [a] => some (if op = 4 then 0 - a else tr (decide (a = 0)))
  | [a, b] => if doesB op a b then some (doesN op a b) else none
  | [a, b, c] => some (if a = 0 then c else b)
  | _ => none
/-- numbers in the row behind an instruction -/
def evalStep (vars args : List Int) (st : List Int) (i : Ins) : Option (List Int) :=
  if i.op = 1 then some (st ++ [i.n]) else if i.op = 2 then some (st ++ [vars.getD i.n.toNat 0]) else if i.op = 3 then some (st ++ [args.getD i.n.toNat 0]) else
  match madeS i.op (st.drop (st.length - (takes i.op).toNat)) with
  | some v => some (st.take (st.length - (takes i.op).toNat) ++ [v])
  | none => none
def evalAt (l : List Ins) (vars args : List Int) : Nat → Option (List Int)
  | 0 => some []
  | k + 1 => match evalAt l vars args k, l[k]? with
    | some st, some i => evalStep vars args st i
    | _, _ => none
theorem evalAt_none {l : List Ins} {vars args : List Int} {k : Nat} (h : evalAt l vars args k = none) : ∀ m, k ≤ m → evalAt l vars args m = none := by
  intro m hm
  induction m with
  | zero => have : k = 0 := by omega
            subst this; exact h
  | succ m ih =>
    rcases Nat.lt_or_ge m k with hk | hk
    · have : k = m + 1 := by omega
      subst this; exact h
    · rw [evalAt, ih hk]
def eEval (l : List Ins) (vars args : List Int) : Int × Int :=
  if (eCheck l vars.length args.length).2 = 0 then
    if valuesOk vars && valuesOk args then
      match evalAt l vars args l.length with
      | some st => (st.getD 0 0, 0)
      | none => (0, 3)
    else (0, 2)
  else (0, (eCheck l vars.length args.length).2)

theorem doesN_val {op a b : Int} (ha : valueOk a = true) (hb : valueOk b = true) (h : doesB op a b = true) : valueOk (doesN op a b) = true := by
  unfold doesB at h
  split at h
  · rename_i h8
    subst h8
    have e : doesN 8 a b = if valueOk (a * b) then a * b else 0 := by unfold doesN; rw [if_neg (by decide), if_neg (by decide), if_pos rfl]
    rw [e, h]; exact h
  · exact h
theorem eCheck_ok {l : List Ins} {vars args : Int} (h : (eCheck l vars args).2 = 0) : l.length ≤ 31 ∧ (∀ i, i < l.length → ckBad l vars args i = none) ∧ rowAt l l.length = 1 := by
  unfold eCheck at h
  split at h
  · cases h
  · split at h
    · cases h
    · rename_i h31
      have ne : ∀ i e, ckBad l vars args i = some e → e ≠ 0 := by
        intro i e he
        unfold ckBad at he
        split at he
        · split at he
          · cases he; decide
          · split at he
            · cases he; decide
            · split at he
              · cases he; decide
              · cases he
        · cases he
      cases hs : scan (ckBad l vars args) l.length with
      | some q =>
        rw [hs] at h
        exfalso
        have := first0_ok (p := ckBad l vars args) (n := l.length) rfl ne (by rw [hs]; exact h)
        rw [scan_none this] at hs; cases hs
      | none =>
        rw [hs] at h
        refine ⟨by omega, scan_ok hs, ?_⟩
        simp only at h
        split at h
        · assumption
        · cases h
theorem ck_at {l : List Ins} {vars args : Int} {k : Nat} {x : Ins} (hx : l[k]? = some x) (h : ckBad l vars args k = none) : ¬ takes x.op < 0 ∧ named x.op x.n vars args = true ∧ ¬ rowAt l k < takes x.op := by
  unfold ckBad at h
  rw [hx] at h
  simp only at h
  split at h
  · cases h
  · split at h
    · cases h
    · split at h
      · cases h
      · rename_i a b c; exact ⟨a, by simpa using b, c⟩

theorem take_set {L : List Int} {m : Nat} {v : Int} (h : m < L.length) : (L.set m v).take (m + 1) = L.take m ++ [v] := by
  rw [List.take_add_one, List.take_set_of_le (Nat.le_refl _), List.getElem?_set_self h]; rfl
theorem one_of {α : Type} {l : List α} (h : l.length = 1) : ∃ a, l = [a] := by
  match l, h with
  | [a], _ => exact ⟨a, rfl⟩
theorem two_of {α : Type} {l : List α} (h : l.length = 2) : ∃ a b, l = [a, b] := by
  match l, h with
  | [a, b], _ => exact ⟨a, b, rfl⟩
theorem three_of {α : Type} {l : List α} (h : l.length = 3) : ∃ a b c, l = [a, b, c] := by
  match l, h with
  | [a, b, c], _ => exact ⟨a, b, c, rfl⟩
/-- what holds at the head of a round -/
structure EvI (l : List Ins) (vars args : List Int) (k : Nat) (st L : List Int) (m : Nat) : Prop where
  k_le : k ≤ l.length
  ev : evalAt l vars args k = some st
  L31 : L.length = 31
  st_eq : L.take m = st
  m_eq : m = st.length
  row : (m : Int) = rowAt l k
  m_le : m ≤ k
  val : ∀ v ∈ st, valueOk v = true
theorem EvI.push {l : List Ins} {vars args : List Int} {k : Nat} {st L : List Int} {m : Nat} {z : Ins} {v : Int} {q : Nat} (I : EvI l vars args k st L m) (hl : l.length ≤ 31) (hk : k < l.length) (hz : l[k]? = some z) (hq : (q : Int) = takes z.op) (hqm : q ≤ m) (hs : evalStep vars args st z = some (st.take (m - q) ++ [v])) (hv : valueOk v = true) :
    EvI l vars args (k + 1) (st.take (m - q) ++ [v]) (L.set (m - q) v) (m - q + 1) := by
  have := I.m_le
  have hlen : (st.take (m - q)).length = m - q := by rw [List.length_take, ← I.m_eq]; omega
  refine ⟨hk, by rw [evalAt, I.ev, hz]; exact hs, by rw [List.length_set]; exact I.L31, ?_, by rw [List.length_append, hlen]; rfl, ?_, by omega, fun w hw => ?_⟩
  · rw [take_set (by rw [I.L31]; omega), ← I.st_eq, List.take_take, Nat.min_eq_left (by omega)]
  · rw [rowAt_succ hz, ← I.row, ← hq]; omega
  · rcases List.mem_append.1 hw with h | h
    · exact I.val w (List.mem_of_mem_take h)
    · simp at h; subst h; exact hv
theorem EvI.slice {l : List Ins} {vars args : List Int} {k : Nat} {st L : List Int} {m q : Nat} (I : EvI l vars args k st L m) (hqm : q ≤ m) : (L.drop (m - q)).take q = st.drop (m - q) := by
  rw [← I.st_eq, List.drop_take, show m - (m - q) = q by omega]

theorem op_of {op : Int} (h0 : ¬ takes op < 0) (o1 : ¬ op = 1) (o2 : ¬ op = 2) (o3 : ¬ op = 3) (t1 : ¬ takes op = 1) (t2 : ¬ takes op = 2) : op = 16 := by
  by_cases a : 1 ≤ op ∧ op ≤ 3
  · omega
  by_cases b : op = 4 ∨ op = 5
  · exact absurd (by unfold takes; rw [if_neg a, if_pos b]) t1
  by_cases c : 6 ≤ op ∧ op ≤ 15
  · exact absurd (by unfold takes; rw [if_neg a, if_neg b, if_pos c]) t2
  by_cases d : op = 16
  · exact d
  exact absurd (by unfold takes; rw [if_neg a, if_neg b, if_neg c, if_neg d]; decide) h0

theorem r_Eval (s : Sl Ins) (vars args : Sl Int) (hs : Sl.ok s) (hv : Sl.ok vars) (ha : Sl.ok args) (H : Hp) : Runs Try.prog pol 36 [.val (slV insV s), .val (slV iv vars), .val (slV iv args)] H ([.val (iv (eEval s.list vars.list args.list).1), .val (iv (eEval s.list vars.list args.list).2)], [], H) := by
  have hs' := hs
  unfold Sl.ok at hs'
  refine Runs.told (fn := Try.f36) (n := 90) [(0, .val (slV insV s)), (1, .val (slV iv vars)), (2, .val (slV iv args))] [(0, .gone 0), (1, .gone 0), (2, .gone 0)] rfl Try.func36 rfl rfl (by kernel_rfl) rfl (by repeat' constructor) (by repeat' constructor) ?_
  repeat' (first
    | intro _
    | refine Ws ?_
    | (refine Wt ?_ ?_ <;> intro _ <;> try (exfalso; omega))
    | (refine Wu ?_ ?_ <;> intro _)
    | refine Wo.call0 (r_Check3 _ _ _ hs) ?_
    | refine Wo.callB (r_evalues _ hv) (fun _ => ?_) (fun _ => ?_)
    | refine Wo.callB (r_evalues _ ha) (fun _ => ?_) (fun _ => ?_)
    | refine Wv ?_
    | refine Wz ?_
    | fail)
  all_goals first
    | (simp [eEval, *]; done)
    | skip
  rename_i hck hvv hva g
  obtain ⟨h31, hbad, hrow⟩ := eCheck_ok hck
  have hE : eEval s.list vars.list args.list = match evalAt s.list vars.list args.list s.list.length with
      | some st => (st.getD 0 0, 0)
      | none => (0, 3) := by
    unfold eEval; rw [if_pos hck, hvv, hva]; rfl
  refine Wx.loop [1, 2, 10, 37, 38, 88, 89] [0, 1, 2, 23, 30, 34] (fun (k, st, L, n) => [(39, .val (iv (k : Nat))), (11, .val (iv n))]) (fun (k, st, L, n) => [(10, .box g (L.map fun a => .val (iv a)) true)]) (fun (k, st, L, n) => EvI s.list vars.list args.list k st L n.toNat ∧ 0 ≤ n) (fun (k, st, L, n) => s.list.length - k) (0, [], List.replicate 31 0, (0 : Int)) ⟨⟨Nat.zero_le _, rfl, rfl, rfl, rfl, rfl, Nat.le_refl _, fun v h => by cases h⟩, Int.le_refl _⟩ (fun a x y hG => ?_)
  obtain ⟨k, st, L, n⟩ := a
  obtain ⟨I, n0⟩ := hG
  dsimp only [List.cons_append, List.nil_append]
  obtain ⟨m, rfl⟩ := Int.eq_ofNat_of_zero_le n0
  rw [Int.toNat_natCast] at I
  have hkl := I.k_le
  have hmk := I.m_le
  have hL := I.L31
  rcases Nat.lt_or_ge k s.list.length with hk | hk
  · obtain ⟨z, hz⟩ := at_some hk
    obtain ⟨ht0, hnm, htr⟩ := ck_at hz (hbad k hk)
    have ht3 := takes_le z.op
    have hrw := I.row
    by_cases o1 : z.op = 1
    · have htk : takes z.op = 0 := by rw [o1]; rfl
      have hvz : valueOk z.n = true := by simpa [named, o1] using hnm
      have hst : evalStep vars.list args.list st z = some (st.take (m - 0) ++ [z.n]) := by
        unfold evalStep; rw [if_pos o1, Nat.sub_zero, I.m_eq, List.take_length]
      have J := I.push (q := 0) h31 hk hz (by rw [htk]; rfl) (Nat.zero_le _) hst hvz
      repeat' (first
        | intro _
        | refine Ws ?_
        | (refine Wt ?_ ?_ <;> intro _ <;> try (exfalso; omega))
        | (refine Wu ?_ ?_ <;> intro _)
        | refine Wo.idxB ?_
        | refine Wo.storeB ?_
        | refine Wv ?_
        | refine Wz ?_
        | fail)
      exact Rd (k + 1, st.take (m - 0) ++ [z.n], L.set (0 + ((m : Nat) : Int).toNat) z.n, ((m : Nat) : Int) + 1) (by dsimp only; omega) ⟨by dsimp only; rw [show 0 + ((m : Nat) : Int).toNat = m - 0 by omega, show (((m : Nat) : Int) + 1).toNat = m - 0 + 1 by omega]; exact J, by dsimp only; omega⟩
    by_cases o2 : z.op = 2
    · have htk : takes z.op = 0 := by rw [o2]; rfl
      have hr2 : 0 ≤ z.n ∧ z.n < vars.list.length := by simpa [named, o2] using hnm
      obtain ⟨v, hvv2⟩ := at_some (show z.n.toNat < vars.list.length by omega)
      have hst : evalStep vars.list args.list st z = some (st.take (m - 0) ++ [v]) := by
        unfold evalStep; rw [if_neg o1, if_pos o2, Nat.sub_zero, I.m_eq, List.take_length, List.getD_eq_getElem?_getD, hvv2]; rfl
      have J := I.push (q := 0) h31 hk hz (by rw [htk]; rfl) (Nat.zero_le _) hst (valuesOk_mem hvv _ _ hvv2)
      repeat' (first
        | intro _
        | refine Ws ?_
        | (refine Wt ?_ ?_ <;> intro _ <;> try (exfalso; omega))
        | (refine Wu ?_ ?_ <;> intro _)
        | refine Wo.idxB ?_
        | refine Wo.storeB ?_
        | refine Wv ?_
        | refine Wz ?_
        | fail)
      exact Rd (k + 1, st.take (m - 0) ++ [v], L.set (0 + ((m : Nat) : Int).toNat) v, ((m : Nat) : Int) + 1) (by dsimp only; omega) ⟨by dsimp only; rw [show 0 + ((m : Nat) : Int).toNat = m - 0 by omega, show (((m : Nat) : Int) + 1).toNat = m - 0 + 1 by omega]; exact J, by dsimp only; omega⟩
    by_cases o3 : z.op = 3
    · have htk : takes z.op = 0 := by rw [o3]; rfl
      have hr2 : 0 ≤ z.n ∧ z.n < args.list.length := by simpa [named, o3] using hnm
      obtain ⟨v, hvv2⟩ := at_some (show z.n.toNat < args.list.length by omega)
      have hst : evalStep vars.list args.list st z = some (st.take (m - 0) ++ [v]) := by
        unfold evalStep; rw [if_neg o1, if_neg o2, if_pos o3, Nat.sub_zero, I.m_eq, List.take_length, List.getD_eq_getElem?_getD, hvv2]; rfl
      have J := I.push (q := 0) h31 hk hz (by rw [htk]; rfl) (Nat.zero_le _) hst (valuesOk_mem hva _ _ hvv2)
      repeat' (first
        | intro _
        | refine Ws ?_
        | (refine Wt ?_ ?_ <;> intro _ <;> try (exfalso; omega))
        | (refine Wu ?_ ?_ <;> intro _)
        | refine Wo.idxB ?_
        | refine Wo.storeB ?_
        | refine Wv ?_
        | refine Wz ?_
        | fail)
      exact Rd (k + 1, st.take (m - 0) ++ [v], L.set (0 + ((m : Nat) : Int).toNat) v, ((m : Nat) : Int) + 1) (by dsimp only; omega) ⟨by dsimp only; rw [show 0 + ((m : Nat) : Int).toNat = m - 0 by omega, show (((m : Nat) : Int) + 1).toNat = m - 0 + 1 by omega]; exact J, by dsimp only; omega⟩
    have hdrop : ∀ q : Nat, (q : Int) = takes z.op → (L.drop (0 + (((m : Nat) : Int) - takes z.op).toNat)).take (((m : Nat) : Int).toNat - (((m : Nat) : Int) - takes z.op).toNat) = st.drop (m - q) := fun q hq => by
      rw [show 0 + (((m : Nat) : Int) - takes z.op).toNat = m - q by omega, show ((m : Nat) : Int).toNat - (((m : Nat) : Int) - takes z.op).toNat = q by omega]
      exact I.slice (by omega)
    have hstep : ∀ q : Nat, (q : Int) = takes z.op → evalStep vars.list args.list st z = match madeS z.op (st.drop (m - q)) with | some v => some (st.take (m - q) ++ [v]) | none => none := fun q hq => by
      unfold evalStep; rw [if_neg o1, if_neg o2, if_neg o3, ← I.m_eq, show (takes z.op).toNat = q by omega]
    by_cases t1 : takes z.op = 1
    · have ho : z.op = 4 ∨ z.op = 5 := by
        unfold takes at t1
        split at t1
        · cases t1
        · split at t1
          · assumption
          · split at t1
            · cases t1
            · split at t1 <;> cases t1
      obtain ⟨a, hda⟩ := one_of (l := st.drop (m - 1)) (by rw [List.length_drop, ← I.m_eq]; omega)
      have hva : valueOk a = true := I.val a (List.mem_of_mem_drop (by rw [hda]; simp))
      have hr := r_made1 z.op a ho hva
      rw [← hda, ← hdrop 1 (by omega)] at hr
      have hst := hstep 1 (by omega)
      rw [hda] at hst
      have hva' := (valueOk_abs _).1 hva
      have J := I.push (q := 1) h31 hk hz (by omega) (by omega) hst (by
        rw [valueOk_abs]; unfold tr; split <;> (try split) <;> omega)
      repeat' (first
        | intro _
        | refine Ws ?_
        | (refine Wt ?_ ?_ <;> intro _ <;> try (exfalso; omega))
        | (refine Wu ?_ ?_ <;> intro _)
        | refine Wo.call0 (r_takes _) ?_
        | refine Wo.cutB ?_
        | refine Wo.callL (la := L) (enc := iv) hr ?_
        | refine Wo.idxB ?_
        | refine Wo.storeB ?_
        | refine Wv ?_
        | refine Wz ?_
        | fail)
      exact Rd (k + 1, st.take (m - 1) ++ [if z.op = 4 then 0 - a else tr (decide (a = 0))], L.set (0 + (((m : Nat) : Int) - takes z.op).toNat) (if z.op = 4 then 0 - a else tr (decide (a = 0))), ((m : Nat) : Int) - takes z.op + 1) (by dsimp only; omega) ⟨by dsimp only; rw [show 0 + (((m : Nat) : Int) - takes z.op).toNat = m - 1 by omega, show (((m : Nat) : Int) - takes z.op + 1).toNat = m - 1 + 1 by omega]; exact J, by dsimp only; omega⟩
    by_cases t2 : takes z.op = 2
    · have ho : 6 ≤ z.op ∧ z.op ≤ 15 := by
        unfold takes at t2
        split at t2
        · cases t2
        · split at t2
          · cases t2
          · split at t2
            · assumption
            · split at t2
              · cases t2
              · cases t2
      obtain ⟨a, b, hda⟩ := two_of (l := st.drop (m - 2)) (by rw [List.length_drop, ← I.m_eq]; omega)
      have hva' : valueOk a = true := I.val a (List.mem_of_mem_drop (by rw [hda]; simp))
      have hvb' : valueOk b = true := I.val b (List.mem_of_mem_drop (by rw [hda]; simp))
      have hr := r_made2 z.op a b ho hva' hvb'
      rw [← hda, ← hdrop 2 (by omega)] at hr
      have hst := hstep 2 (by omega)
      rw [hda] at hst
      cases hB : doesB z.op a b with
      | true =>
        have e : madeS z.op [a, b] = some (doesN z.op a b) := by show (if doesB z.op a b then some (doesN z.op a b) else none) = _; rw [if_pos hB]
        rw [e] at hst
        rw [hB] at hr
        have J := I.push (q := 2) h31 hk hz (by omega) (by omega) hst (doesN_val hva' hvb' hB)
        repeat' (first
          | intro _
          | refine Ws ?_
          | (refine Wt ?_ ?_ <;> intro _ <;> try (exfalso; omega))
          | (refine Wu ?_ ?_ <;> intro _)
          | refine Wo.call0 (r_takes _) ?_
          | refine Wo.cutB ?_
          | refine Wo.callL (la := L) (enc := iv) hr ?_
          | refine Wo.idxB ?_
          | refine Wo.storeB ?_
          | refine Wv ?_
          | refine Wz ?_
          | fail)
        exact Rd (k + 1, st.take (m - 2) ++ [doesN z.op a b], L.set (0 + (((m : Nat) : Int) - takes z.op).toNat) (doesN z.op a b), ((m : Nat) : Int) - takes z.op + 1) (by dsimp only; omega) ⟨by dsimp only; rw [show 0 + (((m : Nat) : Int) - takes z.op).toNat = m - 2 by omega, show (((m : Nat) : Int) - takes z.op + 1).toNat = m - 2 + 1 by omega]; exact J, by dsimp only; omega⟩
      | false =>
        have e : madeS z.op [a, b] = none := by show (if doesB z.op a b then some (doesN z.op a b) else none) = _; rw [hB]; rfl
        rw [e] at hst
        rw [hB] at hr
        repeat' (first
          | intro _
          | refine Ws ?_
          | (refine Wt ?_ ?_ <;> intro _ <;> try (exfalso; omega))
          | (refine Wu ?_ ?_ <;> intro _)
          | refine Wo.call0 (r_takes _) ?_
          | refine Wo.cutB ?_
          | refine Wo.callL (la := L) (enc := iv) hr ?_
          | refine Wo.idxB ?_
          | refine Wo.storeB ?_
          | refine Wv ?_
          | refine Wz ?_
          | fail)
        rw [hE, evalAt_none (k := k + 1) (by rw [evalAt, I.ev, hz]; exact hst) _ (by omega)]
    have ho : z.op = 16 := op_of ht0 o1 o2 o3 t1 t2
    have t3 : takes z.op = 3 := by rw [ho]; rfl
    obtain ⟨a, b, c, hda⟩ := three_of (l := st.drop (m - 3)) (by rw [List.length_drop, ← I.m_eq]; omega)
    have hva1 : valueOk a = true := I.val a (List.mem_of_mem_drop (by rw [hda]; simp))
    have hvb' : valueOk b = true := I.val b (List.mem_of_mem_drop (by rw [hda]; simp))
    have hvc' : valueOk c = true := I.val c (List.mem_of_mem_drop (by rw [hda]; simp))
    have hr := r_made3 a b c
    rw [← hda, ← hdrop 3 (by omega), ← ho] at hr
    have hst := hstep 3 (by omega)
    rw [hda] at hst
    have J := I.push (q := 3) h31 hk hz (by omega) (by omega) hst (by split <;> assumption)
    repeat' (first
      | intro _
      | refine Ws ?_
      | (refine Wt ?_ ?_ <;> intro _ <;> try (exfalso; omega))
      | (refine Wu ?_ ?_ <;> intro _)
      | refine Wo.call0 (r_takes _) ?_
      | refine Wo.cutB ?_
      | refine Wo.callL (la := L) (enc := iv) hr ?_
      | refine Wo.idxB ?_
      | refine Wo.storeB ?_
      | refine Wv ?_
      | refine Wz ?_
      | fail)
    exact Rd (k + 1, st.take (m - 3) ++ [if a = 0 then c else b], L.set (0 + (((m : Nat) : Int) - takes z.op).toNat) (if a = 0 then c else b), ((m : Nat) : Int) - takes z.op + 1) (by dsimp only; omega) ⟨by dsimp only; rw [show 0 + (((m : Nat) : Int) - takes z.op).toNat = m - 3 by omega, show (((m : Nat) : Int) - takes z.op + 1).toNat = m - 3 + 1 by omega]; exact J, by dsimp only; omega⟩
  · repeat' (first
      | intro _
      | refine Ws ?_
      | (refine Wt ?_ ?_ <;> intro _ <;> try (exfalso; omega))
      | (refine Wu ?_ ?_ <;> intro _)
      | refine Wo.idxB ?_
      | refine Wo.loadB (fun _ _ => ?_)
      | refine Wv ?_
      | refine Wz ?_
      | fail)
    rename_i a haa
    have hkk : k = s.list.length := by omega
    subst hkk
    have hm1 : m = 1 := by have := I.row; omega
    subst hm1
    have hst : st = [a] := by
      rw [← I.st_eq]
      match L, haa with
      | b :: _, h => simp at h; subst h; rfl
    rw [hE, I.ev, hst]; rfl
end Go.Vi.CYthalmafpobmdoaa
