/-
  What events make of a state: the walk of the law.
-/
import Derived.Test.YthalmafpobmdoaaCyR
namespace Go.Vi
section
variable {P : Program} {pol : Pol} {f : FuncId} {ops : Array Oper} {K : Fr → Hp → Prop} {n : Nat} {x : Nat → SV} {u : List (Nat × SV)} {y : Nat → TC} {w : List (Nat × TC)} {H : Hp} {l : List Oper} {d : Tmp} {ty : TypeId} {pos : String} {after : Array Edge} {g : Option (Nat × Bool)}
theorem Wo.cvt64 {s t : TypeId} {p : Operand} {k : IntKind} {a : Int} {ts : TypeDesc} (h : WX P pol f ops l K n x ((d, .val (.int .i64 a)) :: u) y w H) (hx : evX n x u p = some (.val (.int k a)) := by rfl) (hs : P.underlying s = some ts := by rfl) (ht : P.underlying t = some (.int .i64) := by rfl) (hb : -9223372036854775808 ≤ a ∧ a ≤ 9223372036854775807 := by constructor <;> omega)
    (hw : openX ops g n x u = true := by rfl) : WX P pol f ops (⟨some d, .convert s t p, ty, pos, after, g⟩ :: l) K n x u y w H :=
  WX.told (fun call => by simp only [stepV, pureV, hx, out, convV, hs, ht, wrap64 hb, Option.bind_eq_bind, Option.bind_some, Option.map_some]) h hw
end
end Go.Vi
namespace Go.Vi.CYthalmafpobmdoaa
open Go.Vi Go.Proofs Go.Proofs.Ythalmafpobmdoaa
set_option linter.unusedVariables false
set_option maxHeartbeats 8000000
set_option maxRecDepth 100000
set_option linter.unusedSimpArgs false

theorem foldS_some : ∀ {l : List Ev} {s : Stt}, (∃ v, s.vars = some v) → ∃ v, (l.foldl applyS s).vars = some v
  | [], _, h => h
  | e :: r, s, h => by rw [List.foldl_cons]; exact foldS_some (l := r) ⟨_, rfl⟩
theorem foldS_append (s : Stt) (l1 l2 : List Ev) : foldS (foldS s l1) l2 = foldS s (l1 ++ l2) := by
  unfold foldS
  rw [List.foldl_append]
  obtain ⟨v, hv⟩ := foldS_some (l := l1) (s := ⟨s.at', s.ver, some s.vars.list⟩) ⟨_, rfl⟩
  generalize l1.foldl applyS ⟨s.at', s.ver, some s.vars.list⟩ = z at hv
  obtain ⟨a, b, c⟩ := z
  simp only at hv
  subst hv
  rfl
theorem sameS_iff {a b : Stt} : sameS a b = true ↔ a.at' = b.at' ∧ a.ver = b.ver ∧ a.vars.list = b.vars.list := by
  simp [sameS, and_assoc]
theorem same_step {a b : Stt} {e : Ev} (h : sameS a b = true) : sameS (applyS a e) (applyR b e) = true := by
  rw [sameS_iff] at h ⊢
  obtain ⟨h1, h2, h3⟩ := h
  refine ⟨rfl, ?_, rfl⟩
  simp only [applyS, applyR, h2]
theorem same_fold : ∀ {l : List Ev} {a b : Stt}, sameS a b = true → sameS (l.foldl applyS a) (l.foldl applyR b) = true
  | [], _, _, h => h
  | e :: r, a, b, h => by rw [List.foldl_cons, List.foldl_cons]; exact same_fold (l := r) (same_step h)
theorem same_start (s : Stt) : sameS ⟨s.at', s.ver, some s.vars.list⟩ s = true := by rw [sameS_iff]; exact ⟨rfl, rfl, rfl⟩
theorem sameS_refl (s : Stt) : sameS s s = true := by rw [sameS_iff]; exact ⟨rfl, rfl, rfl⟩
theorem fold_fit : ∀ {l : List Ev} {s : Stt}, Sl.fit s.vars → (∀ z ∈ l, Sl.fit z.vars) → Sl.fit (l.foldl applyS s).vars
  | [], _, h, _ => h
  | e :: r, s, h, hl => by rw [List.foldl_cons]; exact fold_fit (l := r) (hl e (List.mem_cons_self ..)) fun z hz => hl z (List.mem_cons_of_mem _ hz)

theorem r_DecideFolds (s : Stt) (l : Sl Ev) (c : Int) (hs : s.ok) (hsf : Sl.fit s.vars) (hl : Sl.ok l) (he : ∀ z ∈ l.list, z.ok) (hc : 0 ≤ c ∧ c ≤ 255) (H : Hp) : Runs Try.prog pol 5 [.val (sttV s), .val (slV evV l), .val (.int .u8 c)] H ([.val (.bool true)], [], H) := by
  have hl' := hl
  unfold Sl.ok at hl'
  have hs0 : Stt.ok ⟨s.at', s.ver, some s.vars.list⟩ := ⟨hs.1, hs.2.1, hs.2.2.1, hs.2.2.2⟩
  have main : ∀ m : Sl Ev, Sl.ok m → (∀ z ∈ m.list, z.ok) → (foldS s m.list).ok ∧ (foldR s m.list).ok ∧ Sl.fit (foldS s m.list).vars := fun m hm hme =>
    ⟨foldl_ok (fun s e => applyS_ok) hs0 hme, foldl_ok (fun s e => applyR_ok) hs hme, fold_fit hsf fun z hz => (hme z hz).2.2.1⟩
  refine Runs.told (fn := Try.f5) (n := 68) [(0, .val (sttV s)), (1, .val (slV evV l)), (2, .val (.int .u8 c))] [(0, .gone 0), (1, .gone 0), (2, .gone 0)] rfl Try.func5 rfl rfl (by kernel_rfl) rfl (by repeat' constructor) (by repeat' constructor) ?_
  repeat' (first
    | intro _
    | refine Ws ?_
    | (refine Wt ?_ ?_ <;> intro _ <;> try (exfalso; omega))
    | (refine Wu ?_ ?_ <;> intro _)
    | refine Wv ?_
    | refine Wz ?_
    | fail)
  · rename_i m hm
    have hmo : Sl.ok m := by unfold Sl.ok; rw [hm, List.length_take]; omega
    have hme : ∀ z ∈ m.list, z.ok := fun z hz => he z (by rw [hm] at hz; exact List.mem_of_mem_take hz)
    have hml := hmo
    unfold Sl.ok at hml
    obtain ⟨k1, k2, k3⟩ := main m hmo hme
    have hsm := r_Same (foldS s m.list) (foldR s m.list) k1 k2
    rw [show sameS (foldS s m.list) (foldR s m.list) = true from same_fold (same_start s)] at hsm
    have hsa := r_Same (foldS s m.list) (foldS s m.list) k1 k1
    rw [sameS_refl] at hsa
    repeat' (first
      | intro _
      | refine Ws ?_
      | (refine Wt ?_ ?_ <;> intro _ <;> try (exfalso; omega))
      | (refine Wu ?_ ?_ <;> intro _)
      | refine Wo.call0 (r_Fold s m hs hsf hmo hme) ?_
      | refine Wo.cvt64 ?_
      | refine Wo.rem ?_
      | refine Wv ?_
      | refine Wz ?_
      | fail)
    · have hkm : 0 ≤ c.tmod (m.list.length : Int) ∧ c.tmod (m.list.length : Int) < m.list.length := ⟨Int.tmod_nonneg _ hc.1, Int.tmod_lt_of_pos _ (by omega)⟩
      repeat' (first
        | intro _
        | refine Ws ?_
        | (refine Wt ?_ ?_ <;> intro _ <;> try (exfalso; omega))
        | (refine Wu ?_ ?_ <;> intro _)
        | refine Wv ?_
        | refine Wz ?_
        | fail)
      rename_i s2 hs2
      have hs2o : Sl.ok s2 := by unfold Sl.ok; rw [hs2, List.length_take]; omega
      have hs2e : ∀ z ∈ s2.list, z.ok := fun z hz => hme z (by rw [hs2] at hz; exact List.mem_of_mem_take hz)
      obtain ⟨j1, j2, j3⟩ := main s2 hs2o hs2e
      repeat' (first
        | intro _
        | refine Ws ?_
        | (refine Wt ?_ ?_ <;> intro _ <;> try (exfalso; omega))
        | (refine Wu ?_ ?_ <;> intro _)
        | refine Wo.call0 (r_Fold s s2 hs hsf hs2o hs2e) ?_
        | refine Wv ?_
        | refine Wz ?_
        | fail)
      rename_i s3 hs3
      have hs3o : Sl.ok s3 := by unfold Sl.ok; rw [hs3, List.length_drop]; omega
      have hs3e : ∀ z ∈ s3.list, z.ok := fun z hz => hme z (by rw [hs3] at hz; exact List.mem_of_mem_drop hz)
      have hf3 := r_Fold (foldS s s2.list) s3 j1 j3 hs3o hs3e
      rw [show foldS (foldS s s2.list) s3.list = foldS s m.list by rw [foldS_append, hs2, hs3, List.take_append_drop]] at hf3
      obtain ⟨z0, hz0⟩ := at_some (show (0 : Int).toNat < m.list.length by show 0 < _; omega)
      have hz0o := hme z0 (List.mem_of_getElem? hz0)
      have hap := r_Apply s z0 hs hz0o
      have hra := r_RApply s z0 hs
      have hsp := r_Same (applyS s z0) (applyR s z0) (applyS_ok hs hz0o) (applyR_ok hs hz0o)
      rw [show sameS (applyS s z0) (applyR s z0) = true from same_step (sameS_refl s)] at hsp
      repeat' (first
        | intro _
        | refine Ws ?_
        | (refine Wt ?_ ?_ <;> intro _ <;> try (exfalso; omega))
        | (refine Wu ?_ ?_ <;> intro _)
        | refine Wo.call0 (hf3) ?_
        | refine Wo.call0 (r_awake) ?_
        | refine Wo.call0 (r_RFold s m hs hmo hme) ?_
        | refine Wo.call0 (hsm) ?_
        | refine Wo.call0 (hsa) ?_
        | refine Wo.call0 (hap) ?_
        | refine Wo.call0 (hra) ?_
        | refine Wo.call0 (hsp) ?_
        | refine Wv ?_
        | refine Wz ?_
        | fail)
      all_goals first
        | rfl
        | (exfalso; omega)
        | trace_state
    · have hm0 : m.list = [] := List.eq_nil_of_length_eq_zero (by omega)
      rename_i s2 hs2
      have hs2o : Sl.ok s2 := by unfold Sl.ok; rw [hs2, List.length_take]; omega
      have hs2e : ∀ z ∈ s2.list, z.ok := fun z hz => hme z (by rw [hs2] at hz; exact List.mem_of_mem_take hz)
      obtain ⟨j1, j2, j3⟩ := main s2 hs2o hs2e
      repeat' (first
        | intro _
        | refine Ws ?_
        | (refine Wt ?_ ?_ <;> intro _ <;> try (exfalso; omega))
        | (refine Wu ?_ ?_ <;> intro _)
        | refine Wo.call0 (r_Fold s s2 hs hsf hs2o hs2e) ?_
        | refine Wv ?_
        | refine Wz ?_
        | fail)
      rename_i s3 hs3
      have hs3o : Sl.ok s3 := by unfold Sl.ok; rw [hs3, List.length_drop]; omega
      have hs3e : ∀ z ∈ s3.list, z.ok := fun z hz => hme z (by rw [hs3] at hz; exact List.mem_of_mem_drop hz)
      have hf3 := r_Fold (foldS s s2.list) s3 j1 j3 hs3o hs3e
      rw [show foldS (foldS s s2.list) s3.list = foldS s m.list by rw [foldS_append, hs2, hs3, List.take_append_drop]] at hf3
      have hsz := r_Same (foldS s m.list) s k1 hs
      rw [show sameS (foldS s m.list) s = true by rw [hm0]; exact same_start s] at hsz
      repeat' (first
        | intro _
        | refine Ws ?_
        | (refine Wt ?_ ?_ <;> intro _ <;> try (exfalso; omega))
        | (refine Wu ?_ ?_ <;> intro _)
        | refine Wo.call0 (hf3) ?_
        | refine Wo.call0 (r_awake) ?_
        | refine Wo.call0 (r_RFold s m hs hmo hme) ?_
        | refine Wo.call0 (hsm) ?_
        | refine Wo.call0 (hsa) ?_
        | refine Wo.call0 (hsz) ?_
        | refine Wv ?_
        | refine Wz ?_
        | fail)
      all_goals first
        | rfl
        | (exfalso; omega)
        | trace_state
  · have hmo := hl
    have hme := he
    obtain ⟨k1, k2, k3⟩ := main l hmo hme
    have hsm := r_Same (foldS s l.list) (foldR s l.list) k1 k2
    rw [show sameS (foldS s l.list) (foldR s l.list) = true from same_fold (same_start s)] at hsm
    have hsa := r_Same (foldS s l.list) (foldS s l.list) k1 k1
    rw [sameS_refl] at hsa
    repeat' (first
      | intro _
      | refine Ws ?_
      | (refine Wt ?_ ?_ <;> intro _ <;> try (exfalso; omega))
      | (refine Wu ?_ ?_ <;> intro _)
      | refine Wo.call0 (r_Fold s l hs hsf hmo hme) ?_
      | refine Wo.cvt64 ?_
      | refine Wo.rem ?_
      | refine Wv ?_
      | refine Wz ?_
      | fail)
    · have hkm : 0 ≤ c.tmod (l.list.length : Int) ∧ c.tmod (l.list.length : Int) < l.list.length := ⟨Int.tmod_nonneg _ hc.1, Int.tmod_lt_of_pos _ (by omega)⟩
      repeat' (first
        | intro _
        | refine Ws ?_
        | (refine Wt ?_ ?_ <;> intro _ <;> try (exfalso; omega))
        | (refine Wu ?_ ?_ <;> intro _)
        | refine Wv ?_
        | refine Wz ?_
        | fail)
      rename_i s2 hs2
      have hs2o : Sl.ok s2 := by unfold Sl.ok; rw [hs2, List.length_take]; omega
      have hs2e : ∀ z ∈ s2.list, z.ok := fun z hz => hme z (by rw [hs2] at hz; exact List.mem_of_mem_take hz)
      obtain ⟨j1, j2, j3⟩ := main s2 hs2o hs2e
      repeat' (first
        | intro _
        | refine Ws ?_
        | (refine Wt ?_ ?_ <;> intro _ <;> try (exfalso; omega))
        | (refine Wu ?_ ?_ <;> intro _)
        | refine Wo.call0 (r_Fold s s2 hs hsf hs2o hs2e) ?_
        | refine Wv ?_
        | refine Wz ?_
        | fail)
      rename_i s3 hs3
      have hs3o : Sl.ok s3 := by unfold Sl.ok; rw [hs3, List.length_drop]; omega
      have hs3e : ∀ z ∈ s3.list, z.ok := fun z hz => hme z (by rw [hs3] at hz; exact List.mem_of_mem_drop hz)
      have hf3 := r_Fold (foldS s s2.list) s3 j1 j3 hs3o hs3e
      rw [show foldS (foldS s s2.list) s3.list = foldS s l.list by rw [foldS_append, hs2, hs3, List.take_append_drop]] at hf3
      obtain ⟨z0, hz0⟩ := at_some (show (0 : Int).toNat < l.list.length by show 0 < _; omega)
      have hz0o := hme z0 (List.mem_of_getElem? hz0)
      have hap := r_Apply s z0 hs hz0o
      have hra := r_RApply s z0 hs
      have hsp := r_Same (applyS s z0) (applyR s z0) (applyS_ok hs hz0o) (applyR_ok hs hz0o)
      rw [show sameS (applyS s z0) (applyR s z0) = true from same_step (sameS_refl s)] at hsp
      repeat' (first
        | intro _
        | refine Ws ?_
        | (refine Wt ?_ ?_ <;> intro _ <;> try (exfalso; omega))
        | (refine Wu ?_ ?_ <;> intro _)
        | refine Wo.call0 (hf3) ?_
        | refine Wo.call0 (r_awake) ?_
        | refine Wo.call0 (r_RFold s l hs hmo hme) ?_
        | refine Wo.call0 (hsm) ?_
        | refine Wo.call0 (hsa) ?_
        | refine Wo.call0 (hap) ?_
        | refine Wo.call0 (hra) ?_
        | refine Wo.call0 (hsp) ?_
        | refine Wv ?_
        | refine Wz ?_
        | fail)
      all_goals first
        | rfl
        | (exfalso; omega)
        | trace_state
    · have hm0 : l.list = [] := List.eq_nil_of_length_eq_zero (by omega)
      rename_i s2 hs2
      have hs2o : Sl.ok s2 := by unfold Sl.ok; rw [hs2, List.length_take]; omega
      have hs2e : ∀ z ∈ s2.list, z.ok := fun z hz => hme z (by rw [hs2] at hz; exact List.mem_of_mem_take hz)
      obtain ⟨j1, j2, j3⟩ := main s2 hs2o hs2e
      repeat' (first
        | intro _
        | refine Ws ?_
        | (refine Wt ?_ ?_ <;> intro _ <;> try (exfalso; omega))
        | (refine Wu ?_ ?_ <;> intro _)
        | refine Wo.call0 (r_Fold s s2 hs hsf hs2o hs2e) ?_
        | refine Wv ?_
        | refine Wz ?_
        | fail)
      rename_i s3 hs3
      have hs3o : Sl.ok s3 := by unfold Sl.ok; rw [hs3, List.length_drop]; omega
      have hs3e : ∀ z ∈ s3.list, z.ok := fun z hz => hme z (by rw [hs3] at hz; exact List.mem_of_mem_drop hz)
      have hf3 := r_Fold (foldS s s2.list) s3 j1 j3 hs3o hs3e
      rw [show foldS (foldS s s2.list) s3.list = foldS s l.list by rw [foldS_append, hs2, hs3, List.take_append_drop]] at hf3
      have hsz := r_Same (foldS s l.list) s k1 hs
      rw [show sameS (foldS s l.list) s = true by rw [hm0]; exact same_start s] at hsz
      repeat' (first
        | intro _
        | refine Ws ?_
        | (refine Wt ?_ ?_ <;> intro _ <;> try (exfalso; omega))
        | (refine Wu ?_ ?_ <;> intro _)
        | refine Wo.call0 (hf3) ?_
        | refine Wo.call0 (r_awake) ?_
        | refine Wo.call0 (r_RFold s l hs hmo hme) ?_
        | refine Wo.call0 (hsm) ?_
        | refine Wo.call0 (hsa) ?_
        | refine Wo.call0 (hsz) ?_
        | refine Wv ?_
        | refine Wz ?_
        | fail)
      all_goals first
        | rfl
        | (exfalso; omega)
        | trace_state
end Go.Vi.CYthalmafpobmdoaa
