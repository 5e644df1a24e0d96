/-
  The reference: which states can be reached.
-/
import Derived.Test.YtdfhbmallnegfaaCxP
import Derived.Test.YtdfhbmallnegfaaCxH
namespace Go.Vi.CYtdfhbmallnegfaa
open Go.Vi Go.Proofs Go.Proofs.Ytdfhbmallnegfaa
set_option linter.unusedVariables false
set_option maxHeartbeats 8000000
set_option maxRecDepth 100000
set_option linter.unusedSimpArgs false

structure RI (t : Tb) (O : List Bool) : Prop where
  len : O.length = t.states.list.length
  zero : O[0]? = some true
  out : ∀ a : Nat, O[a]? = some true → Rch t a
def Closed (t : Tb) (O : List Bool) : Prop := ∀ a : Nat, O[a]? = some true → ∀ (n : Nat) (r : Rl), t.rules.list[n]? = some r → for' t n a = true → O[(to' r a).toNat]? = some true
def Done (t : Tb) (O : List Bool) (s n : Nat) : Prop := ∀ a : Nat, O[a]? = some true → ∀ (i : Nat) (r : Rl), t.rules.list[i]? = some r → for' t i a = true → (a < s ∨ (a = s ∧ i < n)) → O[(to' r a).toNat]? = some true
structure RM (t : Tb) (O0 O : List Bool) (s n : Nat) : Prop where
  ri : RI t O
  le : free O ≤ free O0
  same : Closed t O0 → O = O0
  done : free O < free O0 ∨ Done t O s n

section
variable {t : Tb} {O O0 : List Bool} {s n : Nat} {r : Rl}
theorem set_same {O : List Bool} {i : Nat} (h : O[i]? = some true) : O.set i true = O := by
  apply List.ext_getElem?
  intro j
  rw [List.getElem?_set]
  split
  · rename_i e; subst e
    split
    · exact h.symm
    · rename_i h'; rw [List.getElem?_eq_none (by omega)] at h; cases h
  · rfl
theorem RI.set (hR : right' t = true) (I : RI t O) (hs : O[s]? = some true) (hr : t.rules.list[n]? = some r) (hf : for' t n s = true) : RI t (O.set (to' r s).toNat true) := by
  have hl : s < t.states.list.length := by
    rw [← I.len]
    rcases Nat.lt_or_ge s O.length with h | h
    · exact h
    · rw [List.getElem?_eq_none h] at hs; cases hs
  have hto := to_range (right_to hR hr) (s := (s : Int)) ⟨by omega, by omega⟩
  have hrc : Rch t (to' r s) := .step (I.out s hs) hr hf
  refine ⟨by rw [List.length_set, I.len], ?_, fun a ha => ?_⟩
  · rw [List.getElem?_set]
    split
    · rename_i e
      rw [if_pos (by rw [I.len]; omega)]
    · exact I.zero
  · rw [List.getElem?_set] at ha
    split at ha
    · rename_i e
      have : (a : Int) = to' r s := by have := hto.1; unfold to' at *; omega
      rw [this]; exact hrc
    · exact I.out a ha
theorem RM.set (hR : right' t = true) (M : RM t O0 O s n) (hs : O[s]? = some true) (hr : t.rules.list[n]? = some r) (hf : for' t n s = true) : RM t O0 (O.set (to' r s).toNat true) s (n + 1) := by
  have hI := M.ri.set hR hs hr hf
  have hl : s < t.states.list.length := by
    rw [← M.ri.len]
    rcases Nat.lt_or_ge s O.length with h | h
    · exact h
    · rw [List.getElem?_eq_none h] at hs; cases hs
  have hto := to_range (right_to hR hr) (s := (s : Int)) ⟨by omega, by omega⟩
  obtain ⟨o, ho⟩ := at_some (show (to' r s).toNat < O.length by rw [M.ri.len]; unfold to'; omega)
  cases o with
  | true =>
    rw [set_same ho]
    refine ⟨M.ri, M.le, M.same, M.done.imp id fun h a ha i r' hr' hf' hc => ?_⟩
    by_cases he : a = s ∧ i = n
    · obtain ⟨rfl, rfl⟩ := he
      rw [hr] at hr'; cases hr'
      exact ho
    · exact h a ha i r' hr' hf' (by omega)
  | false =>
    have hfs := free_set ho
    refine ⟨hI, by have := M.le; omega, fun hc => ?_, .inl (by have := M.le; omega)⟩
    have e := M.same hc
    subst e
    have := hc s hs n r hr hf
    rw [ho] at this; cases this
theorem RM.skip (M : RM t O0 O s n) (h : ∀ r, O[s]? = some true → t.rules.list[n]? = some r → for' t n s = true → False) : RM t O0 O s (n + 1) :=
  ⟨M.ri, M.le, M.same, M.done.imp id fun hd a ha i r' hr' hf' hc => by
    by_cases he : a = s ∧ i = n
    · obtain ⟨rfl, rfl⟩ := he
      exact absurd hf' (fun hf' => h r' ha hr' hf')
    · exact hd a ha i r' hr' hf' (by omega)⟩
theorem RM.next (M : RM t O0 O s t.rules.list.length) : RM t O0 O (s + 1) 0 :=
  ⟨M.ri, M.le, M.same, M.done.imp id fun hd a ha i r' hr' hf' hc => hd a ha i r' hr' hf' (by
    have : i < t.rules.list.length := by
      rcases Nat.lt_or_ge i t.rules.list.length with h | h
      · exact h
      · rw [List.getElem?_eq_none h] at hr'; cases hr'
    omega)⟩
theorem RM.start (I : RI t O) : RM t O O 0 0 := ⟨I, Nat.le_refl _, fun _ => rfl, .inr fun a ha i r hr hf hc => by omega⟩
theorem RM.over {k : Nat} (M : RM t O0 O t.states.list.length 0) (h : Closed t O0 ∨ free O0 + k + 1 ≤ t.states.list.length) : Closed t O ∨ free O + (k + 1) + 1 ≤ t.states.list.length := by
  rcases h with h | h
  · have e := M.same h
    subst e
    exact .inl h
  · rcases M.done with hd | hd
    · exact .inr (by omega)
    · refine .inl fun a ha i r hr hf => hd a ha i r hr hf (.inl ?_)
      rw [← M.ri.len]
      rcases Nat.lt_or_ge a O.length with h | h
      · exact h
      · rw [List.getElem?_eq_none h] at ha; cases ha
theorem RI.final (hR : right' t = true) (I : RI t O) (hc : Closed t O) : O = reach' t :=
  RInv.final hR ⟨I.len, (fun s h => by cases h), I.out, .inr I.zero, fun a ha n r hr hf _ => .inr (hc a ha n r hr hf)⟩
end

abbrev or' (a b : Prop) : Prop := a ∨ b
theorem r_RReach (t : Tb) (ht : t.ok) (hR : right' t = true) (H : Hp) : Runs Try.prog pol 19 [.val (tbV t)] H ([.own ((reach' t).map VV.bool) 1], [], H) := by
  have hst := right_states hR
  have hn : (t.states.list.length : Int).toNat = t.states.list.length := by omega
  have hlr : (List.replicate (t.states.list.length : Int).toNat false).length = t.states.list.length := by rw [hn, List.length_replicate]
  refine Runs.told (fn := Try.f19) (n := 54) [(0, .val (tbV t))] [(0, .gone 0)] rfl Try.func19 rfl rfl (by kernel_rfl) rfl (by repeat' constructor) (by repeat' constructor) ?_
  repeat' (first
    | refine Wo.move ?_
    | refine Wo.assign ?_
    | refine Wo.nil ?_
    | refine Wo.nilD ?_
    | (guard_target =~ WX _ _ _ _ _ _ _ _ _ _ _ _
       first
        | refine Wo.lss (fun _ => ?_) (fun _ => ?_) <;> try (exfalso; omega)
        | refine Wo.leq (fun _ => ?_) (fun _ => ?_) <;> try (exfalso; omega)
        | refine Wo.gtr (fun _ => ?_) (fun _ => ?_) <;> try (exfalso; omega)
        | refine Wo.geq (fun _ => ?_) (fun _ => ?_) <;> try (exfalso; omega)
        | refine Wo.eql (fun _ => ?_) (fun _ => ?_) <;> try (exfalso; omega)
        | refine Wo.neq (fun _ => ?_) (fun _ => ?_) <;> try (exfalso; omega)
        | refine Wo.seq (fun _ => ?_) (fun _ => ?_)
        | refine Wo.sne (fun _ => ?_) (fun _ => ?_)
        | refine Wo.eqS (fun _ => ?_) (fun _ => ?_)
        | refine Wo.neS (fun _ => ?_) (fun _ => ?_)
        | refine Wo.add ?_
        | refine Wo.sub ?_
        | refine Wo.loadW ?_
        | refine Wo.loadSt ?_
        | refine Wo.load ?_
        | refine Wo.storeW ?_
        | refine Wo.store ?_
        | refine Wo.alloc (fun _ => ?_)
        | refine Wo.box (fun _ => ?_)
        | refine Wo.idxA ?_
        | refine Wo.idx (fun _ _ => ?_)
        | refine Wo.cutHi (fun _ _ => ?_)
        | refine Wo.cutLo (fun _ _ => ?_)
        | refine Wo.cutBoth (fun _ _ => ?_)
        | refine Wo.byteA ?_
        | refine Wo.byte (fun _ _ => ?_)
        | refine Wo.loadEw ?_
        | refine Wo.loadE ?_
        | refine Wo.loadL ?_
        | refine Wo.build ?_
        | refine Wo.clos ?_
        | refine Wo.idxO ?_
        | refine Wo.loadMA ?_
        | refine Wo.loadR ?_
        | refine Wo.loadM (fun _ _ => ?_)
        | refine Wo.row (sz := 1) (fun _ => ?_)
        | refine Wo.row (sz := 2) (fun _ => ?_)
        | refine Wo.row (sz := 4) (fun _ => ?_)
        | refine Wo.row (sz := 5) (fun _ => ?_)
        | refine Wo.makeB (fun _ => ?_)
        | refine Wo.makeI (fun _ => ?_)
        | refine Wo.cutO ?_
        | refine Wo.app1 (fun _ => ?_)
        | refine Wo.storeM ?_
        | refine Wo.row0 ?_
        | refine Wo.len ?_
        | refine Wo.pure ?_
        | refine Wo.shut ?_
        | refine Wo.shut' ?_
        | fail)
    | refine Wx.seq ?_
    | refine Wx.plain ?_
    | (guard_target =~ QX _ _ _ _ _ _ _ _
       first
        | refine Wq.normal ?_
        | refine Wq.exit ?_
        | refine Wq.ret ?_
        | refine Wb.normal ?_
        | refine Wb.hit ?_
        | refine Wb.miss ?_
        | refine Wb.ret ?_
        | refine Wl.ret ?_
        | refine Wl.normal ?_
        | fail)
    | refine Wx.yes ?_
    | refine Wx.no ?_
    | refine Wx.block ?_
    | refine Wx.exit ?_
    | refine Wx.ret ?_
    | refine Wx.skip ?_
    | refine Wx.scope ?_
    | refine Wx.still ?_
    | refine Wx.dyn ?_
    | fail)
  rename_i g1 g
  have h00 : (List.replicate (t.states.list.length : Int).toNat false)[0]? = some false := by rw [hn, List.getElem?_replicate, if_pos (by omega)]
  have hfr : free ((List.replicate (t.states.list.length : Int).toNat false).set 0 true) + 1 = t.states.list.length := by
    rw [free_set h00, hn]; simp [free, List.countP_replicate]
  have hRI : RI t ((List.replicate (t.states.list.length : Int).toNat false).set 0 true) := by
    refine ⟨by simp, ?_, fun a ha => ?_⟩
    · rw [List.getElem?_set, if_pos rfl, if_pos (by omega)]
    · rw [List.getElem?_set] at ha
      split at ha
      · rename_i e; subst e; exact .zero
      · rw [List.getElem?_replicate] at ha; split at ha <;> simp at ha
  refine Wx.loop [1, 2, 3, 53] [0, 1] (fun (k, O) => [(4, .val (iv (k : Nat)))]) (fun (k, O) => [(10, .row g (O.map VV.bool) 1 false)]) (fun (k, O) => k ≤ t.states.list.length ∧ RI t O ∧ or' (Closed t O) (free O + k + 1 ≤ t.states.list.length)) (fun (k, O) => t.states.list.length - k) (0, (List.replicate (t.states.list.length : Int).toNat false).set (0 + Int.toNat 0) true) ⟨Nat.zero_le _, hRI, .inr (by show free (List.set _ 0 true) + 0 + 1 ≤ _; omega)⟩ (fun a x y hG => ?_)
  obtain ⟨k, O⟩ := a
  obtain ⟨h1, h2, h3⟩ := hG
  dsimp only [List.cons_append, List.nil_append]
  rcases Nat.lt_or_ge k t.states.list.length with hk | hk
  · repeat' (first
      | refine Wo.move ?_
      | refine Wo.assign ?_
      | refine Wo.nil ?_
      | refine Wo.nilD ?_
      | (guard_target =~ WX _ _ _ _ _ _ _ _ _ _ _ _
         first
          | refine Wo.lss (fun _ => ?_) (fun _ => ?_) <;> try (exfalso; omega)
          | refine Wo.leq (fun _ => ?_) (fun _ => ?_) <;> try (exfalso; omega)
          | refine Wo.gtr (fun _ => ?_) (fun _ => ?_) <;> try (exfalso; omega)
          | refine Wo.geq (fun _ => ?_) (fun _ => ?_) <;> try (exfalso; omega)
          | refine Wo.eql (fun _ => ?_) (fun _ => ?_) <;> try (exfalso; omega)
          | refine Wo.neq (fun _ => ?_) (fun _ => ?_) <;> try (exfalso; omega)
          | refine Wo.seq (fun _ => ?_) (fun _ => ?_)
          | refine Wo.sne (fun _ => ?_) (fun _ => ?_)
          | refine Wo.eqS (fun _ => ?_) (fun _ => ?_)
          | refine Wo.neS (fun _ => ?_) (fun _ => ?_)
          | refine Wo.add ?_
          | refine Wo.sub ?_
          | refine Wo.loadW ?_
          | refine Wo.loadSt ?_
          | refine Wo.load ?_
          | refine Wo.storeW ?_
          | refine Wo.store ?_
          | refine Wo.alloc (fun _ => ?_)
          | refine Wo.box (fun _ => ?_)
          | refine Wo.idxA ?_
          | refine Wo.idx (fun _ _ => ?_)
          | refine Wo.cutHi (fun _ _ => ?_)
          | refine Wo.cutLo (fun _ _ => ?_)
          | refine Wo.cutBoth (fun _ _ => ?_)
          | refine Wo.byteA ?_
          | refine Wo.byte (fun _ _ => ?_)
          | refine Wo.loadEw ?_
          | refine Wo.loadE ?_
          | refine Wo.loadL ?_
          | refine Wo.build ?_
          | refine Wo.clos ?_
          | refine Wo.idxO ?_
          | refine Wo.loadMA ?_
          | refine Wo.loadR ?_
          | refine Wo.loadM (fun _ _ => ?_)
          | refine Wo.row (sz := 1) (fun _ => ?_)
          | refine Wo.row (sz := 2) (fun _ => ?_)
          | refine Wo.row (sz := 4) (fun _ => ?_)
          | refine Wo.row (sz := 5) (fun _ => ?_)
          | refine Wo.makeB (fun _ => ?_)
          | refine Wo.makeI (fun _ => ?_)
          | refine Wo.cutO ?_
          | refine Wo.app1 (fun _ => ?_)
          | refine Wo.storeM ?_
          | refine Wo.row0 ?_
          | refine Wo.len ?_
          | refine Wo.pure ?_
          | refine Wo.shut ?_
          | refine Wo.shut' ?_
          | fail)
      | refine Wx.seq ?_
      | refine Wx.plain ?_
      | (guard_target =~ QX _ _ _ _ _ _ _ _
         first
          | refine Wq.normal ?_
          | refine Wq.exit ?_
          | refine Wq.ret ?_
          | refine Wb.normal ?_
          | refine Wb.hit ?_
          | refine Wb.miss ?_
          | refine Wb.ret ?_
          | refine Wl.ret ?_
          | refine Wl.normal ?_
          | fail)
      | refine Wx.yes ?_
      | refine Wx.no ?_
      | refine Wx.block ?_
      | refine Wx.exit ?_
      | refine Wx.ret ?_
      | refine Wx.skip ?_
      | refine Wx.scope ?_
      | refine Wx.still ?_
      | refine Wx.dyn ?_
      | fail)
    have M0 := RM.start h2
    refine Wx.loop [1, 2, 3, 4, 13, 14, 15, 16, 17, 18, 19, 53] [0, 1] (fun (s, O1) => [(5, .val (iv (s : Nat)))]) (fun (s, O1) => [(10, .row g (O1.map VV.bool) 1 false)]) (fun (s, O1) => s ≤ t.states.list.length ∧ RM t O O1 s 0) (fun (s, O1) => t.states.list.length - s) (0, O) ⟨Nat.zero_le _, M0⟩ (fun a x y hG => ?_)
    obtain ⟨s, O1⟩ := a
    obtain ⟨q1, M⟩ := hG
    dsimp only [List.cons_append, List.nil_append]
    rcases Nat.lt_or_ge s t.states.list.length with hs | hs
    · repeat' (first
        | refine Wo.move ?_
        | refine Wo.assign ?_
        | refine Wo.nil ?_
        | refine Wo.nilD ?_
        | (guard_target =~ WX _ _ _ _ _ _ _ _ _ _ _ _
           first
            | refine Wo.lss (fun _ => ?_) (fun _ => ?_) <;> try (exfalso; omega)
            | refine Wo.leq (fun _ => ?_) (fun _ => ?_) <;> try (exfalso; omega)
            | refine Wo.gtr (fun _ => ?_) (fun _ => ?_) <;> try (exfalso; omega)
            | refine Wo.geq (fun _ => ?_) (fun _ => ?_) <;> try (exfalso; omega)
            | refine Wo.eql (fun _ => ?_) (fun _ => ?_) <;> try (exfalso; omega)
            | refine Wo.neq (fun _ => ?_) (fun _ => ?_) <;> try (exfalso; omega)
            | refine Wo.seq (fun _ => ?_) (fun _ => ?_)
            | refine Wo.sne (fun _ => ?_) (fun _ => ?_)
            | refine Wo.eqS (fun _ => ?_) (fun _ => ?_)
            | refine Wo.neS (fun _ => ?_) (fun _ => ?_)
            | refine Wo.add ?_
            | refine Wo.sub ?_
            | refine Wo.loadW ?_
            | refine Wo.loadSt ?_
            | refine Wo.load ?_
            | refine Wo.storeW ?_
            | refine Wo.store ?_
            | refine Wo.alloc (fun _ => ?_)
            | refine Wo.box (fun _ => ?_)
            | refine Wo.idxA ?_
            | refine Wo.idx (fun _ _ => ?_)
            | refine Wo.cutHi (fun _ _ => ?_)
            | refine Wo.cutLo (fun _ _ => ?_)
            | refine Wo.cutBoth (fun _ _ => ?_)
            | refine Wo.byteA ?_
            | refine Wo.byte (fun _ _ => ?_)
            | refine Wo.loadEw ?_
            | refine Wo.loadE ?_
            | refine Wo.loadL ?_
            | refine Wo.build ?_
            | refine Wo.clos ?_
            | refine Wo.idxO ?_
            | refine Wo.loadMA ?_
            | refine Wo.loadR ?_
            | refine Wo.loadM (fun _ _ => ?_)
            | refine Wo.row (sz := 1) (fun _ => ?_)
            | refine Wo.row (sz := 2) (fun _ => ?_)
            | refine Wo.row (sz := 4) (fun _ => ?_)
            | refine Wo.row (sz := 5) (fun _ => ?_)
            | refine Wo.makeB (fun _ => ?_)
            | refine Wo.makeI (fun _ => ?_)
            | refine Wo.cutO ?_
            | refine Wo.app1 (fun _ => ?_)
            | refine Wo.storeM ?_
            | refine Wo.row0 ?_
            | refine Wo.len ?_
            | refine Wo.pure ?_
            | refine Wo.shut ?_
            | refine Wo.shut' ?_
            | fail)
        | refine Wx.seq ?_
        | refine Wx.plain ?_
        | (guard_target =~ QX _ _ _ _ _ _ _ _
           first
            | refine Wq.normal ?_
            | refine Wq.exit ?_
            | refine Wq.ret ?_
            | refine Wb.normal ?_
            | refine Wb.hit ?_
            | refine Wb.miss ?_
            | refine Wb.ret ?_
            | refine Wl.ret ?_
            | refine Wl.normal ?_
            | fail)
        | refine Wx.yes ?_
        | refine Wx.no ?_
        | refine Wx.block ?_
        | refine Wx.exit ?_
        | refine Wx.ret ?_
        | refine Wx.skip ?_
        | refine Wx.scope ?_
        | refine Wx.still ?_
        | refine Wx.dyn ?_
        | fail)
      refine Wx.loop [1, 2, 3, 4, 5, 13, 14, 15, 16, 17, 18, 19, 20, 21, 22, 23, 24, 25, 26, 53] [0, 1] (fun (n, O2) => [(6, .val (iv (n : Nat)))]) (fun (n, O2) => [(10, .row g (O2.map VV.bool) 1 false)]) (fun (n, O2) => n ≤ t.rules.list.length ∧ RM t O O2 s n) (fun (n, O2) => t.rules.list.length - n) (0, O1) ⟨Nat.zero_le _, M⟩ (fun a x y hG => ?_)
      obtain ⟨n, O2⟩ := a
      obtain ⟨p1, M2⟩ := hG
      dsimp only [List.cons_append, List.nil_append]
      have hl2 := M2.ri.len
      rcases Nat.lt_or_ge n t.rules.list.length with hnl | hnl
      · obtain ⟨r, hr⟩ := at_some hnl
        have hro := ht.2.2.2.2 r (List.mem_of_getElem? hr)
        have hto := to_range (right_to hR hr) (s := (s : Int)) ⟨by omega, by omega⟩
        have hto1 : 0 ≤ to' r s := hto.1
        have hto2 : to' r s < t.states.list.length := hto.2
        obtain ⟨o, ho⟩ := at_some (show 0 + ((s : Nat) : Int).toNat < O2.length by omega)
        have ho' : O2[s]? = some o := by simpa using ho
        cases o with
        | false =>
          repeat' (first
            | refine Wo.move ?_
            | refine Wo.assign ?_
            | refine Wo.nil ?_
            | refine Wo.nilD ?_
            | (guard_target =~ WX _ _ _ _ _ _ _ _ _ _ _ _
               first
                | refine Wo.lss (fun _ => ?_) (fun _ => ?_) <;> try (exfalso; omega)
                | refine Wo.leq (fun _ => ?_) (fun _ => ?_) <;> try (exfalso; omega)
                | refine Wo.gtr (fun _ => ?_) (fun _ => ?_) <;> try (exfalso; omega)
                | refine Wo.geq (fun _ => ?_) (fun _ => ?_) <;> try (exfalso; omega)
                | refine Wo.eql (fun _ => ?_) (fun _ => ?_) <;> try (exfalso; omega)
                | refine Wo.neq (fun _ => ?_) (fun _ => ?_) <;> try (exfalso; omega)
                | refine Wo.seq (fun _ => ?_) (fun _ => ?_)
                | refine Wo.sne (fun _ => ?_) (fun _ => ?_)
                | refine Wo.eqS (fun _ => ?_) (fun _ => ?_)
                | refine Wo.neS (fun _ => ?_) (fun _ => ?_)
                | refine Wo.add ?_
                | refine Wo.sub ?_
                | refine Wo.loadW ?_
                | refine Wo.loadSt ?_
                | refine Wo.load ?_
                | refine Wo.storeW ?_
                | refine Wo.store ?_
                | refine Wo.alloc (fun _ => ?_)
                | refine Wo.box (fun _ => ?_)
                | refine Wo.idxA ?_
                | refine Wo.idx (fun _ _ => ?_)
                | refine Wo.cutHi (fun _ _ => ?_)
                | refine Wo.cutLo (fun _ _ => ?_)
                | refine Wo.cutBoth (fun _ _ => ?_)
                | refine Wo.byteA ?_
                | refine Wo.byte (fun _ _ => ?_)
                | refine Wo.loadEw ?_
                | refine Wo.loadE ?_
                | refine Wo.loadL ?_
                | refine Wo.build ?_
                | refine Wo.clos ?_
                | refine Wo.idxO ?_
                | refine Wo.loadMA ?_
                | refine Wo.loadR ?_
                | refine Wo.loadM (fun _ _ => ?_)
                | refine Wo.row (sz := 1) (fun _ => ?_)
                | refine Wo.row (sz := 2) (fun _ => ?_)
                | refine Wo.row (sz := 4) (fun _ => ?_)
                | refine Wo.row (sz := 5) (fun _ => ?_)
                | refine Wo.makeB (fun _ => ?_)
                | refine Wo.makeI (fun _ => ?_)
                | refine Wo.cutO ?_
                | refine Wo.app1 (fun _ => ?_)
                | refine Wo.storeM ?_
                | refine Wo.row0 ?_
                | refine Wo.len ?_
                | refine Wo.pure ?_
                | refine Wo.shut ?_
                | refine Wo.shut' ?_
                | fail)
            | refine Wx.seq ?_
            | refine Wx.plain ?_
            | (guard_target =~ QX _ _ _ _ _ _ _ _
               first
                | refine Wq.normal ?_
                | refine Wq.exit ?_
                | refine Wq.ret ?_
                | refine Wb.normal ?_
                | refine Wb.hit ?_
                | refine Wb.miss ?_
                | refine Wb.ret ?_
                | refine Wl.ret ?_
                | refine Wl.normal ?_
                | fail)
            | refine Wx.yes ?_
            | refine Wx.no ?_
            | refine Wx.block ?_
            | refine Wx.exit ?_
            | refine Wx.ret ?_
            | refine Wx.skip ?_
            | refine Wx.scope ?_
            | refine Wx.still ?_
            | refine Wx.dyn ?_
            | fail)
          exact Rd (n + 1, O2) (by dsimp only; omega) ⟨by dsimp only; omega, M2.skip fun r h1 _ _ => by rw [ho'] at h1; cases h1⟩
        | true =>
          repeat' (first
            | refine Wo.move ?_
            | refine Wo.assign ?_
            | refine Wo.nil ?_
            | refine Wo.nilD ?_
            | (guard_target =~ WX _ _ _ _ _ _ _ _ _ _ _ _
               first
                | refine Wo.lss (fun _ => ?_) (fun _ => ?_) <;> try (exfalso; omega)
                | refine Wo.leq (fun _ => ?_) (fun _ => ?_) <;> try (exfalso; omega)
                | refine Wo.gtr (fun _ => ?_) (fun _ => ?_) <;> try (exfalso; omega)
                | refine Wo.geq (fun _ => ?_) (fun _ => ?_) <;> try (exfalso; omega)
                | refine Wo.eql (fun _ => ?_) (fun _ => ?_) <;> try (exfalso; omega)
                | refine Wo.neq (fun _ => ?_) (fun _ => ?_) <;> try (exfalso; omega)
                | refine Wo.seq (fun _ => ?_) (fun _ => ?_)
                | refine Wo.sne (fun _ => ?_) (fun _ => ?_)
                | refine Wo.eqS (fun _ => ?_) (fun _ => ?_)
                | refine Wo.neS (fun _ => ?_) (fun _ => ?_)
                | refine Wo.add ?_
                | refine Wo.sub ?_
                | refine Wo.loadW ?_
                | refine Wo.loadSt ?_
                | refine Wo.load ?_
                | refine Wo.storeW ?_
                | refine Wo.store ?_
                | refine Wo.alloc (fun _ => ?_)
                | refine Wo.box (fun _ => ?_)
                | refine Wo.idxA ?_
                | refine Wo.idx (fun _ _ => ?_)
                | refine Wo.cutHi (fun _ _ => ?_)
                | refine Wo.cutLo (fun _ _ => ?_)
                | refine Wo.cutBoth (fun _ _ => ?_)
                | refine Wo.byteA ?_
                | refine Wo.byte (fun _ _ => ?_)
                | refine Wo.loadEw ?_
                | refine Wo.loadE ?_
                | refine Wo.loadL ?_
                | refine Wo.build ?_
                | refine Wo.clos ?_
                | refine Wo.idxO ?_
                | refine Wo.loadMA ?_
                | refine Wo.loadR ?_
                | refine Wo.loadM (fun _ _ => ?_)
                | refine Wo.row (sz := 1) (fun _ => ?_)
                | refine Wo.row (sz := 2) (fun _ => ?_)
                | refine Wo.row (sz := 4) (fun _ => ?_)
                | refine Wo.row (sz := 5) (fun _ => ?_)
                | refine Wo.makeB (fun _ => ?_)
                | refine Wo.makeI (fun _ => ?_)
                | refine Wo.cutO ?_
                | refine Wo.app1 (fun _ => ?_)
                | refine Wo.storeM ?_
                | refine Wo.row0 ?_
                | refine Wo.callB (r_RFor t n s ht) (fun _ => ?_) (fun _ => ?_)
                | refine Wo.call0 (r_RTo r _ hro) ?_
                | refine Wo.len ?_
                | refine Wo.pure ?_
                | refine Wo.shut ?_
                | refine Wo.shut' ?_
                | fail)
            | refine Wx.seq ?_
            | refine Wx.plain ?_
            | (guard_target =~ QX _ _ _ _ _ _ _ _
               first
                | refine Wq.normal ?_
                | refine Wq.exit ?_
                | refine Wq.ret ?_
                | refine Wb.normal ?_
                | refine Wb.hit ?_
                | refine Wb.miss ?_
                | refine Wb.ret ?_
                | refine Wl.ret ?_
                | refine Wl.normal ?_
                | fail)
            | refine Wx.yes ?_
            | refine Wx.no ?_
            | refine Wx.block ?_
            | refine Wx.exit ?_
            | refine Wx.ret ?_
            | refine Wx.skip ?_
            | refine Wx.scope ?_
            | refine Wx.still ?_
            | refine Wx.dyn ?_
            | fail)
          · have := M2.set hR ho' hr (by assumption)
            exact Rd (n + 1, O2.set (0 + (to' r s).toNat) true) (by dsimp only; omega) ⟨by dsimp only; omega, by rw [Nat.zero_add]; exact this⟩
          · have hff : for' t n s = false := by assumption
            exact Rd (n + 1, O2) (by dsimp only; omega) ⟨by dsimp only; omega, M2.skip fun r _ _ h3 => by rw [hff] at h3; cases h3⟩
      · have e : n = t.rules.list.length := by omega
        subst e
        repeat' (first
          | refine Wo.move ?_
          | refine Wo.assign ?_
          | refine Wo.nil ?_
          | refine Wo.nilD ?_
          | (guard_target =~ WX _ _ _ _ _ _ _ _ _ _ _ _
             first
              | refine Wo.lss (fun _ => ?_) (fun _ => ?_) <;> try (exfalso; omega)
              | refine Wo.leq (fun _ => ?_) (fun _ => ?_) <;> try (exfalso; omega)
              | refine Wo.gtr (fun _ => ?_) (fun _ => ?_) <;> try (exfalso; omega)
              | refine Wo.geq (fun _ => ?_) (fun _ => ?_) <;> try (exfalso; omega)
              | refine Wo.eql (fun _ => ?_) (fun _ => ?_) <;> try (exfalso; omega)
              | refine Wo.neq (fun _ => ?_) (fun _ => ?_) <;> try (exfalso; omega)
              | refine Wo.seq (fun _ => ?_) (fun _ => ?_)
              | refine Wo.sne (fun _ => ?_) (fun _ => ?_)
              | refine Wo.eqS (fun _ => ?_) (fun _ => ?_)
              | refine Wo.neS (fun _ => ?_) (fun _ => ?_)
              | refine Wo.add ?_
              | refine Wo.sub ?_
              | refine Wo.loadW ?_
              | refine Wo.loadSt ?_
              | refine Wo.load ?_
              | refine Wo.storeW ?_
              | refine Wo.store ?_
              | refine Wo.alloc (fun _ => ?_)
              | refine Wo.box (fun _ => ?_)
              | refine Wo.idxA ?_
              | refine Wo.idx (fun _ _ => ?_)
              | refine Wo.cutHi (fun _ _ => ?_)
              | refine Wo.cutLo (fun _ _ => ?_)
              | refine Wo.cutBoth (fun _ _ => ?_)
              | refine Wo.byteA ?_
              | refine Wo.byte (fun _ _ => ?_)
              | refine Wo.loadEw ?_
              | refine Wo.loadE ?_
              | refine Wo.loadL ?_
              | refine Wo.build ?_
              | refine Wo.clos ?_
              | refine Wo.idxO ?_
              | refine Wo.loadMA ?_
              | refine Wo.loadR ?_
              | refine Wo.loadM (fun _ _ => ?_)
              | refine Wo.row (sz := 1) (fun _ => ?_)
              | refine Wo.row (sz := 2) (fun _ => ?_)
              | refine Wo.row (sz := 4) (fun _ => ?_)
              | refine Wo.row (sz := 5) (fun _ => ?_)
              | refine Wo.makeB (fun _ => ?_)
              | refine Wo.makeI (fun _ => ?_)
              | refine Wo.cutO ?_
              | refine Wo.app1 (fun _ => ?_)
              | refine Wo.storeM ?_
              | refine Wo.row0 ?_
              | refine Wo.len ?_
              | refine Wo.pure ?_
              | refine Wo.shut ?_
              | refine Wo.shut' ?_
              | fail)
          | refine Wx.seq ?_
          | refine Wx.plain ?_
          | (guard_target =~ QX _ _ _ _ _ _ _ _
             first
              | refine Wq.normal ?_
              | refine Wq.exit ?_
              | refine Wq.ret ?_
              | refine Wb.normal ?_
              | refine Wb.hit ?_
              | refine Wb.miss ?_
              | refine Wb.ret ?_
              | refine Wl.ret ?_
              | refine Wl.normal ?_
              | fail)
          | refine Wx.yes ?_
          | refine Wx.no ?_
          | refine Wx.block ?_
          | refine Wx.exit ?_
          | refine Wx.ret ?_
          | refine Wx.skip ?_
          | refine Wx.scope ?_
          | refine Wx.still ?_
          | refine Wx.dyn ?_
          | fail)
        exact Rd (s + 1, O2) (by dsimp only; omega) ⟨by dsimp only; omega, M2.next⟩
    · have e : s = t.states.list.length := by omega
      subst e
      repeat' (first
        | refine Wo.move ?_
        | refine Wo.assign ?_
        | refine Wo.nil ?_
        | refine Wo.nilD ?_
        | (guard_target =~ WX _ _ _ _ _ _ _ _ _ _ _ _
           first
            | refine Wo.lss (fun _ => ?_) (fun _ => ?_) <;> try (exfalso; omega)
            | refine Wo.leq (fun _ => ?_) (fun _ => ?_) <;> try (exfalso; omega)
            | refine Wo.gtr (fun _ => ?_) (fun _ => ?_) <;> try (exfalso; omega)
            | refine Wo.geq (fun _ => ?_) (fun _ => ?_) <;> try (exfalso; omega)
            | refine Wo.eql (fun _ => ?_) (fun _ => ?_) <;> try (exfalso; omega)
            | refine Wo.neq (fun _ => ?_) (fun _ => ?_) <;> try (exfalso; omega)
            | refine Wo.seq (fun _ => ?_) (fun _ => ?_)
            | refine Wo.sne (fun _ => ?_) (fun _ => ?_)
            | refine Wo.eqS (fun _ => ?_) (fun _ => ?_)
            | refine Wo.neS (fun _ => ?_) (fun _ => ?_)
            | refine Wo.add ?_
            | refine Wo.sub ?_
            | refine Wo.loadW ?_
            | refine Wo.loadSt ?_
            | refine Wo.load ?_
            | refine Wo.storeW ?_
            | refine Wo.store ?_
            | refine Wo.alloc (fun _ => ?_)
            | refine Wo.box (fun _ => ?_)
            | refine Wo.idxA ?_
            | refine Wo.idx (fun _ _ => ?_)
            | refine Wo.cutHi (fun _ _ => ?_)
            | refine Wo.cutLo (fun _ _ => ?_)
            | refine Wo.cutBoth (fun _ _ => ?_)
            | refine Wo.byteA ?_
            | refine Wo.byte (fun _ _ => ?_)
            | refine Wo.loadEw ?_
            | refine Wo.loadE ?_
            | refine Wo.loadL ?_
            | refine Wo.build ?_
            | refine Wo.clos ?_
            | refine Wo.idxO ?_
            | refine Wo.loadMA ?_
            | refine Wo.loadR ?_
            | refine Wo.loadM (fun _ _ => ?_)
            | refine Wo.row (sz := 1) (fun _ => ?_)
            | refine Wo.row (sz := 2) (fun _ => ?_)
            | refine Wo.row (sz := 4) (fun _ => ?_)
            | refine Wo.row (sz := 5) (fun _ => ?_)
            | refine Wo.makeB (fun _ => ?_)
            | refine Wo.makeI (fun _ => ?_)
            | refine Wo.cutO ?_
            | refine Wo.app1 (fun _ => ?_)
            | refine Wo.storeM ?_
            | refine Wo.row0 ?_
            | refine Wo.len ?_
            | refine Wo.pure ?_
            | refine Wo.shut ?_
            | refine Wo.shut' ?_
            | fail)
        | refine Wx.seq ?_
        | refine Wx.plain ?_
        | (guard_target =~ QX _ _ _ _ _ _ _ _
           first
            | refine Wq.normal ?_
            | refine Wq.exit ?_
            | refine Wq.ret ?_
            | refine Wb.normal ?_
            | refine Wb.hit ?_
            | refine Wb.miss ?_
            | refine Wb.ret ?_
            | refine Wl.ret ?_
            | refine Wl.normal ?_
            | fail)
        | refine Wx.yes ?_
        | refine Wx.no ?_
        | refine Wx.block ?_
        | refine Wx.exit ?_
        | refine Wx.ret ?_
        | refine Wx.skip ?_
        | refine Wx.scope ?_
        | refine Wx.still ?_
        | refine Wx.dyn ?_
        | fail)
      exact Rd (k + 1, O1) (by dsimp only; omega) ⟨by dsimp only; omega, M.ri, M.over h3⟩
  · have hc : Closed t O := by
      rcases h3 with h | h
      · exact h
      · omega
    have hfin := h2.final hR hc
    subst hfin
    repeat' (first
      | refine Wo.move ?_
      | refine Wo.assign ?_
      | refine Wo.nil ?_
      | refine Wo.nilD ?_
      | (guard_target =~ WX _ _ _ _ _ _ _ _ _ _ _ _
         first
          | refine Wo.lss (fun _ => ?_) (fun _ => ?_) <;> try (exfalso; omega)
          | refine Wo.leq (fun _ => ?_) (fun _ => ?_) <;> try (exfalso; omega)
          | refine Wo.gtr (fun _ => ?_) (fun _ => ?_) <;> try (exfalso; omega)
          | refine Wo.geq (fun _ => ?_) (fun _ => ?_) <;> try (exfalso; omega)
          | refine Wo.eql (fun _ => ?_) (fun _ => ?_) <;> try (exfalso; omega)
          | refine Wo.neq (fun _ => ?_) (fun _ => ?_) <;> try (exfalso; omega)
          | refine Wo.seq (fun _ => ?_) (fun _ => ?_)
          | refine Wo.sne (fun _ => ?_) (fun _ => ?_)
          | refine Wo.eqS (fun _ => ?_) (fun _ => ?_)
          | refine Wo.neS (fun _ => ?_) (fun _ => ?_)
          | refine Wo.add ?_
          | refine Wo.sub ?_
          | refine Wo.loadW ?_
          | refine Wo.loadSt ?_
          | refine Wo.load ?_
          | refine Wo.storeW ?_
          | refine Wo.store ?_
          | refine Wo.alloc (fun _ => ?_)
          | refine Wo.box (fun _ => ?_)
          | refine Wo.idxA ?_
          | refine Wo.idx (fun _ _ => ?_)
          | refine Wo.cutHi (fun _ _ => ?_)
          | refine Wo.cutLo (fun _ _ => ?_)
          | refine Wo.cutBoth (fun _ _ => ?_)
          | refine Wo.byteA ?_
          | refine Wo.byte (fun _ _ => ?_)
          | refine Wo.loadEw ?_
          | refine Wo.loadE ?_
          | refine Wo.loadL ?_
          | refine Wo.build ?_
          | refine Wo.clos ?_
          | refine Wo.idxO ?_
          | refine Wo.loadMA ?_
          | refine Wo.loadR ?_
          | refine Wo.loadM (fun _ _ => ?_)
          | refine Wo.row (sz := 1) (fun _ => ?_)
          | refine Wo.row (sz := 2) (fun _ => ?_)
          | refine Wo.row (sz := 4) (fun _ => ?_)
          | refine Wo.row (sz := 5) (fun _ => ?_)
          | refine Wo.makeB (fun _ => ?_)
          | refine Wo.makeI (fun _ => ?_)
          | refine Wo.cutO ?_
          | refine Wo.app1 (fun _ => ?_)
          | refine Wo.storeM ?_
          | refine Wo.row0 ?_
          | refine Wo.len ?_
          | refine Wo.pure ?_
          | refine Wo.shut ?_
          | refine Wo.shut' ?_
          | fail)
      | refine Wx.seq ?_
      | refine Wx.plain ?_
      | (guard_target =~ QX _ _ _ _ _ _ _ _
         first
          | refine Wq.normal ?_
          | refine Wq.exit ?_
          | refine Wq.ret ?_
          | refine Wb.normal ?_
          | refine Wb.hit ?_
          | refine Wb.miss ?_
          | refine Wb.ret ?_
          | refine Wl.ret ?_
          | refine Wl.normal ?_
          | fail)
      | refine Wx.yes ?_
      | refine Wx.no ?_
      | refine Wx.block ?_
      | refine Wx.exit ?_
      | refine Wx.ret ?_
      | refine Wx.skip ?_
      | refine Wx.scope ?_
      | refine Wx.still ?_
      | refine Wx.dyn ?_
      | fail)
    refine Wl.retR ?_ (ho := .own rfl (by rw [List.length_map, reach_len]; omega) .nil)
    rfl
end Go.Vi.CYtdfhbmallnegfaa
