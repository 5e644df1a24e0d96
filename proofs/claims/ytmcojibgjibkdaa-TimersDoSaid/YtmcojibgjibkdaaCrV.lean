/-
  All; both clocks' lists.
-/
import Derived.Test.YtmcojibgjibkdaaCrU
namespace Go.Vi.CYtmcojibgjibkdaa
open Go.Vi Go.Proofs Go.Proofs.Ytmcojibgjibkdaa
set_option linter.unusedVariables false
set_option maxHeartbeats 8000000
set_option maxRecDepth 100000
set_option linter.unusedSimpArgs false

section
variable {P : Program} {pol : Pol} {f : FuncId} {ops : Array Oper} {K : Fr → Hp → Prop} {n : Nat} {x : Nat → SV} {u : List (Nat × SV)} {y : Nat → TC} {w : List (Nat × TC)} {H : Hp} {l : List Oper} {d : Tmp} {ty : TypeId} {pos : String} {after : Array Edge} {g : Option (Nat × Bool)}
variable {c : Call} {fid : FuncId} {v0 : VV} {o g' sz m : Nat} {es es' : List VV}
/-- a row is lent to a call that sees objects, and comes back -/
theorem Wo.lendRowI (hR : Runs P pol fid [.own es sz, .val v0] H ([], [.own es' sz], H)) (h : WX P pol f ops l K n x ((d, .tup []) :: u) y ((o, .row g' es' sz false) :: w) H) {fo : Operand} (hcal : c.callee = .value fo := by rfl) (hf : evX n x u fo = some (.val (.func fid [] [])) := by rfl)
    (ha : (c.args.toList.map (evX n x u)).mapM id = some [.own o g' 0 m sz, .val v0] := by rfl) (hb : tgX n y w o = .row g' es sz false := by rfl) (hm : m = es.length := by first | rfl | (simp; done) | (simp; omega)) (hl : es'.length = es.length := by first | rfl | (simp; done) | (simp; omega))
    (hm0 : pol.mode fid 0 = 2 := by rfl) (hm1 : pol.mode fid 1 = 0 := by rfl) (hp : pol.pure fid = false := by rfl) (hw : openX ops g n x u = true := by rfl) : WX P pol f ops (⟨some d, .call c, ty, pos, after, g⟩ :: l) K n x u y w H := by
  obtain ⟨kk, hk⟩ := hR
  subst hm
  have ho : outArgs (pol.mode fid) (lay n y w) 0 [.own o g' 0 es.length sz, .val v0] = some ([.own es sz, .val v0], lay n y w, [.row o g']) := by
    have h0 : outT (lay n y w) (.val v0) = some (v0, lay n y w) := rfl
    have h2 : outArg 2 (lay n y w) (.own o g' 0 es.length sz) = some (.own es sz, lay n y w, [.row o g']) := by
      simp only [outArg, tget_mk, hb, and_self, if_true]
    simp only [outArgs, hm0, hm1, outArg_zero, h0, h2, Option.map_some, List.append_nil]
  have hbk : backV (lay n y w) [.row o g'] [.own es' sz] = some (lay n y ((o, .row g' es' sz false) :: w)) := by
    simp only [backV, tget_mk, hb, hl, and_self, if_true, mk_set]
  refine WX.calledH ⟨kk, fun call e => ?_⟩ hw h
  subst e
  obtain ⟨ce, ar, ct⟩ := c
  simp only at hcal ha
  subst hcal
  have hk' : callV P pol kk fid (([] : List VV).map .val ++ [.own es sz, .val v0] ++ ([] : List VV).map .val) H = some ([], [.own es' sz], H) := hk
  have hst : ([Lent.row o g'].all (stillOwn (lay n y w)) && nodupN ([Lent.row o g'].map Lent.key)) = true := by simp only [List.all_cons, List.all_nil, stillOwn, tget_mk, hb, beq_self_eq_true, Bool.and_true, List.map_cons, List.map_nil, nodupN, List.contains_nil, Bool.not_false]
  simp only [stepV, callsV, hf, ha, List.length_nil, ho, hst, Bool.not_true, Bool.false_eq_true, if_false, keeps_eq hk' hp, hp, hk', Bool.false_and, hbk]
  rfl
/-- .. at a slice of no elements -/
theorem Wo.lendNoneI (hR : Runs P pol fid [.val (.lst []), .val v0] H ([], [], H)) (h : WX P pol f ops l K n x ((d, .tup []) :: u) y w H) {fo : Operand} (hcal : c.callee = .value fo := by rfl) (hf : evX n x u fo = some (.val (.func fid [] [])) := by rfl)
    (ha : (c.args.toList.map (evX n x u)).mapM id = some [.full [], .val v0] := by rfl) (hm0 : pol.mode fid 0 = 2 := by rfl) (hm1 : pol.mode fid 1 = 0 := by rfl) (hp : pol.pure fid = false := by rfl) (hw : openX ops g n x u = true := by rfl) : WX P pol f ops (⟨some d, .call c, ty, pos, after, g⟩ :: l) K n x u y w H := by
  obtain ⟨kk, hk⟩ := hR
  have ho : outArgs (pol.mode fid) (lay n y w) 0 [.full [], .val v0] = some ([.val (.lst []), .val v0], lay n y w, []) := by
    have h0 : outT (lay n y w) (.val v0) = some (v0, lay n y w) := rfl
    have h2 : outArg 2 (lay n y w) (.full []) = some (.val (.lst []), lay n y w, []) := rfl
    simp only [outArgs, hm0, hm1, outArg_zero, h0, h2, Option.map_some, List.append_nil]
  refine WX.calledH ⟨kk, fun call e => ?_⟩ hw h
  subst e
  obtain ⟨ce, ar, ct⟩ := c
  simp only at hcal ha
  subst hcal
  have hk' : callV P pol kk fid (([] : List RV) ++ [.val (.lst []), .val v0] ++ ([] : List RV)) H = some ([], [], H) := hk
  simp only [stepV, callsV, hf, ha, List.length_nil, ho, List.all_nil, List.map_nil, nodupN, Bool.and_self, Bool.not_true, Bool.false_eq_true, if_false, keeps_eq hk' hp, hp, hk', Bool.false_and]
  rfl
end

theorem r_SortT {l : List Tm} (hne : l ≠ []) (hlen : l.length < 4611686018427387904) {c o : Nat} {H : Hp} {x0 : VV} (hO : H.objs c = some (.cells [x0, .ptr o 0])) :
    Runs Try.prog pol0 25 [.own (l.map tmV) 2, .val (.func 26 [] [.elt [.agg [.ptr c 0]] 0 0])] H ([], [.own ((sortM l).map tmV) 2], H) := by
  refine ⟨1, ?_⟩
  have e : pol0.ext 25 = some sortX := rfl
  simp only [callV, e, sortX, List.length_map, tmsV_of, hO]
  rw [if_pos ⟨trivial, hlen⟩]
  cases l with
  | nil => exact absurd rfl hne
  | cons x r => rfl
theorem r_SortT0 (v : VV) (H : Hp) : Runs Try.prog pol0 25 [.val (.lst []), .val v] H ([], [], H) := ⟨1, rfl⟩
theorem sortM_is {l ts : List Tm} (hp : l.Perm ts) (hs : Srt ts) : sortM l = ts := by
  have h1 : (sortM l).Pairwise le := by
    have h := List.pairwise_mergeSort (le := fun x y => !aheadB y x) (fun a b c h1 h2 => by
      simp only [Bool.not_eq_true'] at *
      exact le_trans (a := a) (b := b) (c := c) h1 h2) (fun a b => by
      cases h : aheadB b a with
      | false => rfl
      | true =>
        have := le_of_ahead h
        rw [show aheadB a b = false from this]; rfl) l
    refine h.imp fun hab => ?_
    exact (by simpa using hab : aheadB _ _ = false)
  have h2 : ts.Pairwise le := hs.so.imp fun h => le_of_ahead h
  exact List.Perm.eq_of_pairwise (fun a b _ _ => le_antisymm) h1 h2 ((List.mergeSort_perm l _).trans hp)
theorem now_run {args : List RV} {H : Hp} {rs bs : List RV} (h : nowX args H = some (rs, bs)) : Runs Try.prog pol0 11 args H (rs, bs, H) := by
  unfold nowX at h
  split at h
  · simp only [Option.some.injEq, Prod.mk.injEq] at h
    obtain ⟨rfl, rfl⟩ := h
    refine Runs.told (fn := Try.f11) (n := 9) [(0, .val .nil)] [(0, .gone 0)] rfl Try.func11 rfl rfl (by kernel_rfl) rfl (by repeat' constructor) (by repeat' constructor) ?_
    repeat' (first
      | intro _
      | refine Ws ?_
      | (refine Wt ?_ ?_ <;> intro _ <;> try (exfalso; omega))
      | (refine Wu ?_ ?_ <;> intro _)
      | refine Wv ?_
      | refine Wz ?_
      | fail)
    rfl
  · rename_i c
    split at h
    · rename_i n o h1
      simp only [Option.some.injEq, Prod.mk.injEq] at h
      obtain ⟨rfl, rfl⟩ := h
      refine Runs.told (fn := Try.f11) (n := 9) [(0, .val (.ptr c 0))] [(0, .gone 0)] rfl Try.func11 rfl rfl (by kernel_rfl) rfl (by repeat' constructor) (by repeat' constructor) ?_
      repeat' (first
        | intro _
        | refine Ws ?_
        | (refine Wt ?_ ?_ <;> intro _ <;> try (exfalso; omega))
        | (refine Wu ?_ ?_ <;> intro _)
        | refine Wo.loadHc h1 ?_
        | refine Wv ?_
        | refine Wz ?_
        | fail)
      rfl
    · cases h
  · cases h
theorem all_run {args : List RV} {H : Hp} {rs bs : List RV} (h : allX args H = some (rs, bs)) : Runs Try.prog pol0 18 args H (rs, bs, H) := by
  unfold allX at h
  split at h
  · simp only [Option.some.injEq, Prod.mk.injEq] at h
    obtain ⟨rfl, rfl⟩ := h
    refine Runs.told (fn := Try.f18) (n := 19) [(0, .val .nil)] [(0, .gone 0)] rfl Try.func18 rfl rfl (by kernel_rfl) rfl (by repeat' constructor) (by repeat' constructor) ?_
    repeat' (first
      | intro _
      | refine Ws ?_
      | (refine Wt ?_ ?_ <;> intro _ <;> try (exfalso; omega))
      | (refine Wu ?_ ?_ <;> intro _)
      | refine Wv ?_
      | refine Wz ?_
      | fail)
    rfl
  · rename_i c
    split at h
    · rename_i x0 o h1
      split at h
      · rename_i x1 r0
        simp only [Option.some.injEq, Prod.mk.injEq] at h
        obtain ⟨rfl, rfl⟩ := h
        refine Runs.told (fn := Try.f18) (n := 19) [(0, .val (.ptr c 0))] [(0, .gone 0)] rfl Try.func18 rfl rfl (by kernel_rfl) rfl (by repeat' constructor) (by repeat' constructor) ?_
        repeat' (first
          | intro _
          | refine Ws ?_
          | (refine Wt ?_ ?_ <;> intro _ <;> try (exfalso; omega))
          | (refine Wu ?_ ?_ <;> intro _)
          | refine Wo.loadHc h1 ?_
          | refine Wo.loadHc r0 ?_
          | refine Wo.appF (enc := tmV) (s := none) (hr := Nat.zero_le _) (fun _ _ h => absurd rfl h) (fun _ => ?_)
          | refine Wo.lendNoneI (r_SortT0 _ _) ?_
          | refine Wv ?_
          | refine Wz ?_
          | fail)
        all_goals exact Wl.retF (us := [.lst []]) rfl
      · rename_i ol n x1 r0
        split at h
        · rename_i es g0
          split at h
          · rename_i l hl
            have := tmsV_is hl
            subst this
            split at h
            · rename_i hn
              obtain ⟨hn1, hn2⟩ := hn
              simp only [Option.some.injEq, Prod.mk.injEq] at h
              obtain ⟨rfl, rfl⟩ := h
              have htk : (l.take n).length = n := by rw [List.length_take]; omega
              have hms : (sortM (l.take n)).length = n := (List.length_mergeSort _).trans htk
              rcases Nat.eq_zero_or_pos n with hz | hz
              · subst hz
                have e0 : (sortM (l.take 0)).map tmV = [] := by simp [sortM]
                rw [e0]
                refine Runs.told (fn := Try.f18) (n := 19) [(0, .val (.ptr c 0))] [(0, .gone 0)] rfl Try.func18 rfl rfl (by kernel_rfl) rfl (by repeat' constructor) (by repeat' constructor) ?_
                repeat' (first
                  | intro _
                  | refine Ws ?_
                  | (refine Wt ?_ ?_ <;> intro _ <;> try (exfalso; omega))
                  | (refine Wu ?_ ?_ <;> intro _)
                  | refine Wo.loadHc h1 ?_
                  | refine Wo.loadHc r0 ?_
                  | refine Wo.appRow g0 (fun _ _ => ?_) (fun _ => ?_)
                  | refine Wo.lendNoneI (r_SortT0 _ _) ?_
                  | refine Wv ?_
                  | refine Wz ?_
                  | fail)
                all_goals first
                  | (exfalso; omega)
                  | exact Wl.retF (us := [.lst []]) rfl
              · have R := r_SortT (l := l.take n) (by intro e; rw [e] at htk; simp at htk; omega) (by rw [htk]; omega) h1
                refine Runs.told (fn := Try.f18) (n := 19) [(0, .val (.ptr c 0))] [(0, .gone 0)] rfl Try.func18 rfl rfl (by kernel_rfl) rfl (by repeat' constructor) (by repeat' constructor) ?_
                repeat' (first
                  | intro _
                  | refine Ws ?_
                  | (refine Wt ?_ ?_ <;> intro _ <;> try (exfalso; omega))
                  | (refine Wu ?_ ?_ <;> intro _)
                  | refine Wo.loadHc h1 ?_
                  | refine Wo.loadHc r0 ?_
                  | refine Wo.appRow g0 (fun _ _ => ?_) (fun _ => ?_)
                  | refine Wo.lendRowI R (hl := by rw [List.length_map, List.length_map, hms, htk]) ?_
                  | refine Wv ?_
                  | refine Wz ?_
                  | fail)
                all_goals first
                  | (exfalso; omega)
                  | exact Wl.retF (us := [.lst ((sortM (l.take n)).map tmV)]) rfl
            · cases h
          · cases h
        · cases h
      · cases h
    · cases h
  · cases h
theorem calm0 : ∀ f fn c, Try.prog.funcs[f]? = some fn → fn.body = some c → pol0.dyn f = true ∨ staticOk c = true := allStatic_spec (P := Try.prog) (dyn := dyn21) (by kernel_rfl)
/-- what the code of a function comes to, as an answer -/
theorem ans_of {f : FuncId} {args rs bs : List RV} {H : Hp} (h : Runs Try.prog pol0 f args H (rs, bs, H)) : AnsOk Try.prog mode21 f args H rs bs H := by
  obtain ⟨k, hk⟩ := h
  exact (callV_ok (Checked.mixed Try.checked) (fun _ _ => drawn_ok) calm0 ext_ok0 k).ok _ _ _ _ _ _ hk
theorem ext_ok : ExtOk Try.prog pol := by
  intro f g args H rs bs hf hg
  have hf' : ext21 f = some g := hf
  unfold ext21 at hf'
  split at hf'
  · rename_i he
    subst he
    simp only [Option.some.injEq] at hf'
    subst hf'
    exact ans_of (now_run hg)
  · split at hf'
    · rename_i he
      subst he
      simp only [Option.some.injEq] at hf'
      subst hf'
      exact ans_of (all_run hg)
    · exact ext_ok0 f g args H rs bs hf' hg
theorem r_All {H : Hp} {c : Nat} {now : Int} {ts : List Tm} {S : List Nat} (h : Ck H c now ts S) (hs : Srt ts) (hlen : ts.length < 1000000) :
    Runs Try.prog pol 18 [.val (.ptr c 0)] H ([.val (slV tmV (some ts))], [], H) := by
  obtain ⟨o, S0, h1, h2, h3, h4, _⟩ := h
  refine ⟨1, ?_⟩
  have e : pol.ext 18 = some allX := rfl
  rcases h4 with ⟨rfl, om, h, _⟩ | ⟨ol, om, l, tl, ms, cl, h, hh, hp, _⟩
  · simp only [callV, e, allX, h1, h.row, Option.map_some]; rfl
  · have hl := hp.length_eq
    have hc : l.length ≤ (l ++ tl).length ∧ l.length ≤ 1000000 := ⟨by rw [List.length_append]; omega, by omega⟩
    have htk : (l ++ tl).take l.length = l := by rw [List.take_left']; rfl
    simp only [callV, e, allX, h1, h.row, h.lst, tmsV_of, if_pos hc, Option.map_some, htk, sortM_is hp hs]
    rfl
end Go.Vi.CYtmcojibgjibkdaa
