/-
  What an expression comes to: the reference.
-/
import Derived.Test.YthalmafpobmdoaaCyK
namespace Go.Vi.CYthalmafpobmdoaa
open Go.Vi Go.Proofs Go.Proofs.Ythalmafpobmdoaa
set_option linter.unusedVariables false
set_option maxHeartbeats 8000000
set_option maxRecDepth 100000
set_option linter.unusedSimpArgs false

/-- what holds at the head of a round of the reference -/
structure EvJ (l : List Ins) (vars args : List Int) (k : Nat) (st : List Int) : Prop where
  k_le : k ≤ l.length
  ev : evalAt l vars args k = some st
  row : (st.length : Int) = rowAt l k
  m_le : st.length ≤ k
  val : ∀ v ∈ st, valueOk v = true
theorem EvJ.push {l : List Ins} {vars args : List Int} {k : Nat} {st : List Int} {z : Ins} {v : Int} {q : Nat} (I : EvJ l vars args k st) (hk : k < l.length) (hz : l[k]? = some z) (hq : (q : Int) = takes z.op) (hqm : q ≤ st.length) (hs : evalStep vars args st z = some (st.take (st.length - q) ++ [v])) (hv : valueOk v = true) :
    EvJ l vars args (k + 1) (st.take (st.length - q) ++ [v]) := by
  have := I.m_le
  have hlen : (st.take (st.length - q)).length = st.length - q := by rw [List.length_take]; omega
  refine ⟨hk, by rw [evalAt, I.ev, hz]; exact hs, ?_, ?_, fun w hw => ?_⟩
  · rw [List.length_append, hlen, List.length_singleton, rowAt_succ hz, ← I.row, ← hq]; omega
  · rw [List.length_append, hlen, List.length_singleton]; omega
  · rcases List.mem_append.1 hw with h | h
    · exact I.val w (List.mem_of_mem_take h)
    · simp at h; subst h; exact hv

theorem r_REval (s : Sl Ins) (vars args : Sl Int) (hs : Sl.ok s) (hv : Sl.ok vars) (ha : Sl.ok args) (H : Hp) : Runs Try.prog pol 30 [.val (slV insV s), .val (slV iv vars), .val (slV iv args)] H ([.val (iv (eEval s.list vars.list args.list).1), .val (iv (eEval s.list vars.list args.list).2)], [], H) := by
  have hs' := hs
  unfold Sl.ok at hs'
  unfold Sl.ok at hv ha
  refine Runs.told (fn := Try.f30) (n := 116) [(0, .val (slV insV s)), (1, .val (slV iv vars)), (2, .val (slV iv args))] [(0, .gone 0), (1, .gone 0), (2, .gone 0)] rfl Try.func30 rfl rfl (by kernel_rfl) rfl (by repeat' constructor) (by repeat' constructor) ?_
  repeat' (first
    | intro _
    | refine Ws ?_
    | (refine Wt ?_ ?_ <;> intro _ <;> try (exfalso; omega))
    | (refine Wu ?_ ?_ <;> intro _)
    | refine Wo.call0 (r_RCheck3 _ _ _ hs) ?_
    | refine Wv ?_
    | refine Wz ?_
    | fail)
  · rename_i hck
    obtain ⟨h31, hbad, hrow⟩ := eCheck_ok hck
    refine Wx.loop [0, 1, 2, 11, 12, 13, 14, 15, 16, 17, 42, 43, 44, 45, 46, 47, 48, 49, 50, 51, 52, 53, 54, 55, 56, 57, 58, 59, 60, 61, 62, 63, 64, 65, 66, 67, 68, 69, 70, 71, 72, 73, 74, 75, 76, 77, 78, 79, 80, 81, 82, 83, 84, 85, 86, 87, 88, 89, 90, 91, 92, 93, 94, 95, 96, 97, 98, 99, 100, 101, 102, 103, 104, 105, 106, 107, 108, 109, 110, 111, 112, 113, 114, 115] [0, 1, 2, 14, 24, 52, 84, 96, 107, 109, 111, 112] (fun k => [(10, .val (iv (k : Nat)))]) (fun k => []) (fun k => k ≤ vars.list.length ∧ ∀ j, j < k → valBad vars.list j = none) (fun k => vars.list.length - k) 0 ⟨Nat.zero_le _, fun _ h => by omega⟩ (fun k x y hG => ?_)
    obtain ⟨h1, h2⟩ := hG
    dsimp only [List.cons_append, List.nil_append]
    rcases Nat.lt_or_ge k vars.list.length with hk | hk
    · obtain ⟨z, hz⟩ := at_some hk
      repeat' (first
        | intro _
        | refine Ws ?_
        | (refine Wt ?_ ?_ <;> intro _ <;> try (exfalso; omega))
        | (refine Wu ?_ ?_ <;> intro _)
        | refine Wo.callB (r_Value3 _) (fun _ => ?_) (fun _ => ?_)
        | refine Wv ?_
        | refine Wz ?_
        | fail)
      · exact Rd (k + 1) (by omega) ⟨by omega, none_succ h2 (by simp only [valBad, hz]; rw [if_pos (by assumption)])⟩
      · have hb := scan_found (p := valBad vars.list) (b := ()) h2 (by simp only [valBad, hz]; rw [if_neg (by simp [*])]) (n := vars.list.length) (by omega)
        simp [eEval, hck, valuesOk, hb]
    · have hvv : valuesOk vars.list = true := by simp [valuesOk, scan_none (p := valBad vars.list) (n := vars.list.length) (fun j hj => h2 j (by omega))]
      repeat' (first
        | intro _
        | refine Ws ?_
        | (refine Wt ?_ ?_ <;> intro _ <;> try (exfalso; omega))
        | (refine Wu ?_ ?_ <;> intro _)
        | refine Wv ?_
        | refine Wz ?_
        | fail)
      refine Wx.loop [0, 1, 2, 12, 13, 14, 15, 16, 17, 54, 55, 56, 57, 58, 59, 60, 61, 62, 63, 64, 65, 66, 67, 68, 69, 70, 71, 72, 73, 74, 75, 76, 77, 78, 79, 80, 81, 82, 83, 84, 85, 86, 87, 88, 89, 90, 91, 92, 93, 94, 95, 96, 97, 98, 99, 100, 101, 102, 103, 104, 105, 106, 107, 108, 109, 110, 111, 112, 113, 114, 115] [0, 1, 2, 14, 24, 40, 84, 96, 107, 109, 111, 112] (fun k' => [(11, .val (iv (k' : Nat)))]) (fun k' => []) (fun k' => k' ≤ args.list.length ∧ ∀ j, j < k' → valBad args.list j = none) (fun k' => args.list.length - k') 0 ⟨Nat.zero_le _, fun _ h => by omega⟩ (fun k' x y hG => ?_)
      obtain ⟨h3, h4⟩ := hG
      dsimp only [List.cons_append, List.nil_append]
      rcases Nat.lt_or_ge k' args.list.length with hk' | hk'
      · obtain ⟨z, hz⟩ := at_some hk'
        repeat' (first
          | intro _
          | refine Ws ?_
          | (refine Wt ?_ ?_ <;> intro _ <;> try (exfalso; omega))
          | (refine Wu ?_ ?_ <;> intro _)
          | refine Wo.callB (r_Value3 _) (fun _ => ?_) (fun _ => ?_)
          | refine Wv ?_
          | refine Wz ?_
          | fail)
        · exact Rd (k' + 1) (by omega) ⟨by omega, none_succ h4 (by simp only [valBad, hz]; rw [if_pos (by assumption)])⟩
        · have hb := scan_found (p := valBad args.list) (b := ()) h4 (by simp only [valBad, hz]; rw [if_neg (by simp [*])]) (n := args.list.length) (by omega)
          simp [eEval, hck, valuesOk, hb]
      · have hva : valuesOk args.list = true := by simp [valuesOk, scan_none (p := valBad args.list) (n := args.list.length) (fun j hj => h4 j (by omega))]
        have hE : eEval s.list vars.list args.list = match evalAt s.list vars.list args.list s.list.length with
            | some st => (st.getD 0 0, 0)
            | none => (0, 3) := by
          unfold eEval; rw [if_pos hck, hvv, hva]; rfl
        repeat' (first
          | intro _
          | refine Ws ?_
          | (refine Wt ?_ ?_ <;> intro _ <;> try (exfalso; omega))
          | (refine Wu ?_ ?_ <;> intro _)
          | refine Wv ?_
          | refine Wz ?_
          | fail)
        refine Wx.loop [0, 1, 2, 113, 114, 115] [0, 1, 2, 24, 40, 52] (fun (i, r) => [(13, .val (iv (i : Nat))), (12, .val (slV iv r))]) (fun (i, r) => []) (fun (i, r) => EvJ s.list vars.list args.list i (Sl.list r) ∧ True) (fun (i, r) => s.list.length - i) (0, (none : Sl Int)) ⟨⟨Nat.zero_le _, rfl, rfl, Nat.le_refl _, fun v h => by cases h⟩, trivial⟩ (fun a x y hG => ?_)
        obtain ⟨i, r⟩ := a
        obtain ⟨I, tt⟩ := hG
        dsimp only [List.cons_append, List.nil_append]
        have hil := I.k_le
        have hml := I.m_le
        rcases Nat.lt_or_ge i s.list.length with hi | hi
        · obtain ⟨z, hz⟩ := at_some hi
          obtain ⟨ht0, hnm, htr⟩ := ck_at hz (hbad i hi)
          have ht3 := takes_le z.op
          have hrw := I.row
          have hstep : ∀ q : Nat, (q : Int) = takes z.op → ¬ z.op = 1 → ¬ z.op = 2 → ¬ z.op = 3 → evalStep vars.list args.list (Sl.list r) z = match madeS z.op ((Sl.list r).drop ((Sl.list r).length - q)) with | some v => some ((Sl.list r).take ((Sl.list r).length - q) ++ [v]) | none => none := fun q hq o1 o2 o3 => by
            unfold evalStep; rw [if_neg o1, if_neg o2, if_neg o3, show (takes z.op).toNat = q by omega]; rfl
          by_cases o1 : z.op = 1
          · have htk : takes z.op = 0 := by rw [o1]; rfl
            have hst : evalStep vars.list args.list (Sl.list r) z = some ((Sl.list r).take ((Sl.list r).length - 0) ++ [z.n]) := by
              unfold evalStep; rw [if_pos o1, Nat.sub_zero, List.take_length]
            have J := I.push (q := 0) hi hz (by rw [htk]; rfl) (Nat.zero_le _) hst (by simpa [named, o1] using hnm)
            repeat' (first
              | intro _
              | refine Ws ?_
              | (refine Wt ?_ ?_ <;> intro _ <;> try (exfalso; omega))
              | (refine Wu ?_ ?_ <;> intro _)
              | refine Wo.call0 (r_RTakes _) ?_
              | refine Wv ?_
              | refine Wz ?_
              | fail)
            refine Wo.appF (fun g2 _ hne => ?_) (fun hem => ?_)
            · repeat' (first
                | intro _
                | refine Ws ?_
                | (refine Wt ?_ ?_ <;> intro _ <;> try (exfalso; omega))
                | (refine Wu ?_ ?_ <;> intro _)
                | refine Wv ?_
                | refine Wz ?_
                | fail)
              exact Rd (i + 1, some ((Sl.list r).take (Sl.list r).length ++ [z.n])) (by dsimp only; omega) ⟨by rw [Nat.sub_zero] at J; exact J, trivial⟩
            · repeat' (first
                | intro _
                | refine Ws ?_
                | (refine Wt ?_ ?_ <;> intro _ <;> try (exfalso; omega))
                | (refine Wu ?_ ?_ <;> intro _)
                | refine Wo.app1f (enc := iv) (fun _ => rfl) (fun _ => ?_)
                | refine Wv ?_
                | refine Wz ?_
                | fail)
              exact Rd (i + 1, some [z.n]) (by dsimp only; omega) ⟨by rw [hem] at J; exact J, trivial⟩
          by_cases o2 : z.op = 2
          · have htk : takes z.op = 0 := by rw [o2]; rfl
            have hr2 : 0 ≤ z.n ∧ z.n < vars.list.length := by simpa [named, o2] using hnm
            obtain ⟨v, hvv2⟩ := at_some (show z.n.toNat < vars.list.length by omega)
            have hst : evalStep vars.list args.list (Sl.list r) z = some ((Sl.list r).take ((Sl.list r).length - 0) ++ [v]) := by
              unfold evalStep; rw [if_neg o1, if_pos o2, Nat.sub_zero, List.take_length, List.getD_eq_getElem?_getD, hvv2]; rfl
            have J := I.push (q := 0) hi hz (by rw [htk]; rfl) (Nat.zero_le _) hst (valuesOk_mem hvv _ _ hvv2)
            repeat' (first
              | intro _
              | refine Ws ?_
              | (refine Wt ?_ ?_ <;> intro _ <;> try (exfalso; omega))
              | (refine Wu ?_ ?_ <;> intro _)
              | refine Wo.call0 (r_RTakes _) ?_
              | refine Wv ?_
              | refine Wz ?_
              | fail)
            refine Wo.appF (fun g2 _ hne => ?_) (fun hem => ?_)
            · repeat' (first
                | intro _
                | refine Ws ?_
                | (refine Wt ?_ ?_ <;> intro _ <;> try (exfalso; omega))
                | (refine Wu ?_ ?_ <;> intro _)
                | refine Wv ?_
                | refine Wz ?_
                | fail)
              exact Rd (i + 1, some ((Sl.list r).take (Sl.list r).length ++ [v])) (by dsimp only; omega) ⟨by rw [Nat.sub_zero] at J; exact J, trivial⟩
            · repeat' (first
                | intro _
                | refine Ws ?_
                | (refine Wt ?_ ?_ <;> intro _ <;> try (exfalso; omega))
                | (refine Wu ?_ ?_ <;> intro _)
                | refine Wo.app1f (enc := iv) (fun _ => rfl) (fun _ => ?_)
                | refine Wv ?_
                | refine Wz ?_
                | fail)
              exact Rd (i + 1, some [v]) (by dsimp only; omega) ⟨by rw [hem] at J; exact J, trivial⟩
          by_cases o3 : z.op = 3
          · have htk : takes z.op = 0 := by rw [o3]; rfl
            have hr2 : 0 ≤ z.n ∧ z.n < args.list.length := by simpa [named, o3] using hnm
            obtain ⟨v, hvv2⟩ := at_some (show z.n.toNat < args.list.length by omega)
            have hst : evalStep vars.list args.list (Sl.list r) z = some ((Sl.list r).take ((Sl.list r).length - 0) ++ [v]) := by
              unfold evalStep; rw [if_neg o1, if_neg o2, if_pos o3, Nat.sub_zero, List.take_length, List.getD_eq_getElem?_getD, hvv2]; rfl
            have J := I.push (q := 0) hi hz (by rw [htk]; rfl) (Nat.zero_le _) hst (valuesOk_mem hva _ _ hvv2)
            repeat' (first
              | intro _
              | refine Ws ?_
              | (refine Wt ?_ ?_ <;> intro _ <;> try (exfalso; omega))
              | (refine Wu ?_ ?_ <;> intro _)
              | refine Wo.call0 (r_RTakes _) ?_
              | refine Wv ?_
              | refine Wz ?_
              | fail)
            refine Wo.appF (fun g2 _ hne => ?_) (fun hem => ?_)
            · repeat' (first
                | intro _
                | refine Ws ?_
                | (refine Wt ?_ ?_ <;> intro _ <;> try (exfalso; omega))
                | (refine Wu ?_ ?_ <;> intro _)
                | refine Wv ?_
                | refine Wz ?_
                | fail)
              exact Rd (i + 1, some ((Sl.list r).take (Sl.list r).length ++ [v])) (by dsimp only; omega) ⟨by rw [Nat.sub_zero] at J; exact J, trivial⟩
            · repeat' (first
                | intro _
                | refine Ws ?_
                | (refine Wt ?_ ?_ <;> intro _ <;> try (exfalso; omega))
                | (refine Wu ?_ ?_ <;> intro _)
                | refine Wo.app1f (enc := iv) (fun _ => rfl) (fun _ => ?_)
                | refine Wv ?_
                | refine Wz ?_
                | fail)
              exact Rd (i + 1, some [v]) (by dsimp only; omega) ⟨by rw [hem] at J; exact J, trivial⟩
          by_cases t1 : takes z.op = 1
          · have ho : z.op = 4 ∨ z.op = 5 := by
              unfold takes at t1
              split at t1
              · cases t1
              · split at t1
                · assumption
                · split at t1
                  · cases t1
                  · split at t1 <;> cases t1
            obtain ⟨a, hda⟩ := one_of (l := (Sl.list r).drop ((Sl.list r).length - 1)) (by rw [List.length_drop]; omega)
            have hva0 : valueOk a = true := I.val a (List.mem_of_mem_drop (by rw [hda]; simp))
            have hst := hstep 1 (by omega) o1 o2 o3
            rw [hda] at hst
            have hva' := (valueOk_abs _).1 hva0
            have J := I.push (q := 1) hi hz (by omega) (by omega) hst (by
              rw [valueOk_abs]; unfold tr; split <;> (try split) <;> omega)
            repeat' (first
              | intro _
              | refine Ws ?_
              | (refine Wt ?_ ?_ <;> intro _ <;> try (exfalso; omega))
              | (refine Wu ?_ ?_ <;> intro _)
              | refine Wo.call0 (r_RTakes _) ?_
              | refine Wv ?_
              | refine Wz ?_
              | fail)
            rename_i s2 hs2
            have e2 : s2 = some [a] := Sl.eq_some (by rw [hs2, show (((Sl.list r).length : Nat) - takes z.op : Int).toNat = (Sl.list r).length - 1 by omega]; exact hda)
            subst e2
            repeat' (first
              | intro _
              | refine Ws ?_
              | (refine Wt ?_ ?_ <;> intro _ <;> try (exfalso; omega))
              | (refine Wu ?_ ?_ <;> intro _)
              | refine Wo.call0 (r_Made1 _ _ ho hva0) ?_
              | refine Wv ?_
              | refine Wz ?_
              | fail)
            rename_i s3 hs3
            have e3 : s3.list = (Sl.list r).take ((Sl.list r).length - 1) := by rw [hs3]; congr 1; omega
            have l3 : s3.list.length = (Sl.list r).length - 1 := by rw [e3, List.length_take]; omega
            refine Wo.appF (fun g2 _ hne => ?_) (fun hem => ?_)
            · repeat' (first
                | intro _
                | refine Ws ?_
                | (refine Wt ?_ ?_ <;> intro _ <;> try (exfalso; omega))
                | (refine Wu ?_ ?_ <;> intro _)
                | refine Wv ?_
                | refine Wz ?_
                | fail)
              exact Rd (i + 1, some (s3.list.take s3.list.length ++ [if z.op = 4 then 0 - a else tr (decide (a = 0))])) (by dsimp only; omega) ⟨by show EvJ _ _ _ _ (s3.list.take s3.list.length ++ [_]); rw [List.take_length, e3]; exact J, trivial⟩
            · repeat' (first
                | intro _
                | refine Ws ?_
                | (refine Wt ?_ ?_ <;> intro _ <;> try (exfalso; omega))
                | (refine Wu ?_ ?_ <;> intro _)
                | refine Wo.app1f (enc := iv) (fun _ => rfl) (fun _ => ?_)
                | refine Wv ?_
                | refine Wz ?_
                | fail)
              exact Rd (i + 1, some [if z.op = 4 then 0 - a else tr (decide (a = 0))]) (by dsimp only; omega) ⟨by rw [← e3, hem] at J; exact J, trivial⟩
          by_cases t2 : takes z.op = 2
          · have ho : 6 ≤ z.op ∧ z.op ≤ 15 := by
              unfold takes at t2
              split at t2
              · cases t2
              · split at t2
                · cases t2
                · split at t2
                  · assumption
                  · split at t2
                    · cases t2
                    · cases t2
            obtain ⟨a, b, hda⟩ := two_of (l := (Sl.list r).drop ((Sl.list r).length - 2)) (by rw [List.length_drop]; omega)
            have hva0 : valueOk a = true := I.val a (List.mem_of_mem_drop (by rw [hda]; simp))
            have hvb0 : valueOk b = true := I.val b (List.mem_of_mem_drop (by rw [hda]; simp))
            have hst := hstep 2 (by omega) o1 o2 o3
            rw [hda] at hst
            have hr := r_Made2 z.op a b ho hva0 hvb0
            cases hB : doesB z.op a b with
            | true =>
              have e : madeS z.op [a, b] = some (doesN z.op a b) := by show (if doesB z.op a b then some (doesN z.op a b) else none) = _; rw [if_pos hB]
              rw [e] at hst
              rw [hB, madN_does hva0 hvb0 hB] at hr
              have J := I.push (q := 2) hi hz (by omega) (by omega) hst (doesN_val hva0 hvb0 hB)
              repeat' (first
                | intro _
                | refine Ws ?_
                | (refine Wt ?_ ?_ <;> intro _ <;> try (exfalso; omega))
                | (refine Wu ?_ ?_ <;> intro _)
                | refine Wo.call0 (r_RTakes _) ?_
                | refine Wv ?_
                | refine Wz ?_
                | fail)
              rename_i s2 hs2
              have e2 : s2 = some [a, b] := Sl.eq_some (by rw [hs2, show (((Sl.list r).length : Nat) - takes z.op : Int).toNat = (Sl.list r).length - 2 by omega]; exact hda)
              subst e2
              repeat' (first
                | intro _
                | refine Ws ?_
                | (refine Wt ?_ ?_ <;> intro _ <;> try (exfalso; omega))
                | (refine Wu ?_ ?_ <;> intro _)
                | refine Wo.call0 (hr) ?_
                | refine Wv ?_
                | refine Wz ?_
                | fail)
              rename_i s3 hs3
              have e3 : s3.list = (Sl.list r).take ((Sl.list r).length - 2) := by rw [hs3]; congr 1; omega
              have l3 : s3.list.length = (Sl.list r).length - 2 := by rw [e3, List.length_take]; omega
              refine Wo.appF (fun g2 _ hne => ?_) (fun hem => ?_)
              · repeat' (first
                  | intro _
                  | refine Ws ?_
                  | (refine Wt ?_ ?_ <;> intro _ <;> try (exfalso; omega))
                  | (refine Wu ?_ ?_ <;> intro _)
                  | refine Wv ?_
                  | refine Wz ?_
                  | fail)
                exact Rd (i + 1, some (s3.list.take s3.list.length ++ [doesN z.op a b])) (by dsimp only; omega) ⟨by show EvJ _ _ _ _ (s3.list.take s3.list.length ++ [_]); rw [List.take_length, e3]; exact J, trivial⟩
              · repeat' (first
                  | intro _
                  | refine Ws ?_
                  | (refine Wt ?_ ?_ <;> intro _ <;> try (exfalso; omega))
                  | (refine Wu ?_ ?_ <;> intro _)
                  | refine Wo.app1f (enc := iv) (fun _ => rfl) (fun _ => ?_)
                  | refine Wv ?_
                  | refine Wz ?_
                  | fail)
                exact Rd (i + 1, some [doesN z.op a b]) (by dsimp only; omega) ⟨by rw [← e3, hem] at J; exact J, trivial⟩
            | false =>
              have e : madeS z.op [a, b] = none := by show (if doesB z.op a b then some (doesN z.op a b) else none) = _; rw [hB]; rfl
              rw [e] at hst
              rw [hB] at hr
              repeat' (first
                | intro _
                | refine Ws ?_
                | (refine Wt ?_ ?_ <;> intro _ <;> try (exfalso; omega))
                | (refine Wu ?_ ?_ <;> intro _)
                | refine Wo.call0 (r_RTakes _) ?_
                | refine Wv ?_
                | refine Wz ?_
                | fail)
              rename_i s2 hs2
              have e2 : s2 = some [a, b] := Sl.eq_some (by rw [hs2, show (((Sl.list r).length : Nat) - takes z.op : Int).toNat = (Sl.list r).length - 2 by omega]; exact hda)
              subst e2
              repeat' (first
                | intro _
                | refine Ws ?_
                | (refine Wt ?_ ?_ <;> intro _ <;> try (exfalso; omega))
                | (refine Wu ?_ ?_ <;> intro _)
                | refine Wo.call0 (hr) ?_
                | refine Wv ?_
                | refine Wz ?_
                | fail)
              rw [hE, evalAt_none (k := i + 1) (by rw [evalAt, I.ev, hz]; exact hst) _ (by omega)]
          have ho : z.op = 16 := op_of ht0 o1 o2 o3 t1 t2
          have t3 : takes z.op = 3 := by rw [ho]; rfl
          obtain ⟨a, b, c, hda⟩ := three_of (l := (Sl.list r).drop ((Sl.list r).length - 3)) (by rw [List.length_drop]; omega)
          have hva1 : valueOk a = true := I.val a (List.mem_of_mem_drop (by rw [hda]; simp))
          have hvb' : valueOk b = true := I.val b (List.mem_of_mem_drop (by rw [hda]; simp))
          have hvc' : valueOk c = true := I.val c (List.mem_of_mem_drop (by rw [hda]; simp))
          have hr := r_Made3 a b c
          rw [← ho] at hr
          have hst := hstep 3 (by omega) o1 o2 o3
          rw [hda] at hst
          have J := I.push (q := 3) hi hz (by omega) (by omega) hst (by split <;> assumption)
          repeat' (first
            | intro _
            | refine Ws ?_
            | (refine Wt ?_ ?_ <;> intro _ <;> try (exfalso; omega))
            | (refine Wu ?_ ?_ <;> intro _)
            | refine Wo.call0 (r_RTakes _) ?_
            | refine Wv ?_
            | refine Wz ?_
            | fail)
          rename_i s2 hs2
          have e2 : s2 = some [a, b, c] := Sl.eq_some (by rw [hs2, show (((Sl.list r).length : Nat) - takes z.op : Int).toNat = (Sl.list r).length - 3 by omega]; exact hda)
          subst e2
          repeat' (first
            | intro _
            | refine Ws ?_
            | (refine Wt ?_ ?_ <;> intro _ <;> try (exfalso; omega))
            | (refine Wu ?_ ?_ <;> intro _)
            | refine Wo.call0 (hr) ?_
            | refine Wv ?_
            | refine Wz ?_
            | fail)
          rename_i s3 hs3
          have e3 : s3.list = (Sl.list r).take ((Sl.list r).length - 3) := by rw [hs3]; congr 1; omega
          have l3 : s3.list.length = (Sl.list r).length - 3 := by rw [e3, List.length_take]; omega
          refine Wo.appF (fun g2 _ hne => ?_) (fun hem => ?_)
          · repeat' (first
              | intro _
              | refine Ws ?_
              | (refine Wt ?_ ?_ <;> intro _ <;> try (exfalso; omega))
              | (refine Wu ?_ ?_ <;> intro _)
              | refine Wv ?_
              | refine Wz ?_
              | fail)
            exact Rd (i + 1, some (s3.list.take s3.list.length ++ [if a = 0 then c else b])) (by dsimp only; omega) ⟨by show EvJ _ _ _ _ (s3.list.take s3.list.length ++ [_]); rw [List.take_length, e3]; exact J, trivial⟩
          · repeat' (first
              | intro _
              | refine Ws ?_
              | (refine Wt ?_ ?_ <;> intro _ <;> try (exfalso; omega))
              | (refine Wu ?_ ?_ <;> intro _)
              | refine Wo.app1f (enc := iv) (fun _ => rfl) (fun _ => ?_)
              | refine Wv ?_
              | refine Wz ?_
              | fail)
            exact Rd (i + 1, some [if a = 0 then c else b]) (by dsimp only; omega) ⟨by rw [← e3, hem] at J; exact J, trivial⟩
        · have hkk : i = s.list.length := by omega
          subst hkk
          have hm1 : (Sl.list r).length = 1 := by have := I.row; omega
          obtain ⟨a, ha1⟩ := one_of hm1
          have ha0 : (Sl.list r)[(0 : Int).toNat]? = some a := by rw [ha1]; rfl
          repeat' (first
            | intro _
            | refine Ws ?_
            | (refine Wt ?_ ?_ <;> intro _ <;> try (exfalso; omega))
            | (refine Wu ?_ ?_ <;> intro _)
            | refine Wv ?_
            | refine Wz ?_
            | fail)
          rw [hE, I.ev, ha1]; rfl
  · simp [eEval, *]
end Go.Vi.CYthalmafpobmdoaa
