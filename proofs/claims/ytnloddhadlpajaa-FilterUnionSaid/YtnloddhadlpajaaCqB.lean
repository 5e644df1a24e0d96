/-
  FilterUnion.
-/
import Derived.Test.YtnloddhadlpajaaCqA
import Derived.Test.YtnloddhadlpajaaCpX
namespace Go.Vi
section
variable {P : Program} {pol : Pol} {f : FuncId} {ops : Array Oper} {K : Fr → Hp → Prop} {n : Nat} {x : Nat → SV} {u : List (Nat × SV)} {y : Nat → TC} {w : List (Nat × TC)} {H : Hp} {l : List Oper} {d : Tmp} {ty : TypeId} {pos : String} {after : Array Edge} {g : Option (Nat × Bool)}
/-- a call that sees rows of one's own; flat answers leave them unknown to others -/
theorem Wo.callGR {c : Call} {fid : FuncId} {us : List VV} {ss : List SV} {vs0 r : List RV} {v : SV} {fl : Bool} {w' : List (Nat × TC)} (hR : ∀ H, Runs P pol fid vs0 H (r, [], H)) (h : WX P pol f ops l K n x ((d, v) :: u) y (bif fl then w else w') H) {fo : Operand} (hfl : r.all flatR = fl := by rfl) (hcal : c.callee = .value fo := by rfl) (hf : evX n x u fo = some (.val (.func fid [] [])) := by rfl)
    (ha : (c.args.toList.map (evX n x u)).mapM id = some ss := by rfl) (ho : ArgsX n y w ss us w' := by repeat' (first | exact ArgsX.nil | exact OutsX.nil | apply ArgsX.st | apply ArgsX.one | apply OutsX.cons | exact OutX.val | exact OutX.full | apply OutX.own | rfl | (simp; done) | (simp; omega))) (he : us.map .val = vs0 := by rfl) (hm : ∀ i, pol.mode fid i = 0 := by intro _; rfl) (hp : pol.pure fid = true := by rfl)
    (hv : ∀ tab, ofRV tab (d :: pol.keys f d) r = some (v, tab) := by intro _; rfl) (hw : openX ops g n x u = true := by rfl) : WX P pol f ops (⟨some d, .call c, ty, pos, after, g⟩ :: l) K n x u y w H := by
  subst he
  obtain ⟨k, hk⟩ := hR (Hp.bare H.next)
  exact WX.called ⟨k, fun call e => by
    subst e
    refine stepV_call (tab1 := lay n y (bif fl then w else w')) (dst := some d) (first := []) (cap := []) (back := []) (lent := []) (by simpa using hk) hcal hf ha (ho.told hm) rfl hp ?_ (hv _)
    rw [hfl]
    have hkk : keepsAll (pol.mode fid) ([] : List VV).length ss = true := keeps_zero hm
    rw [hkk]
    cases fl <;> rfl⟩ hw h
end
end Go.Vi
namespace Go.Vi.CYtnloddhadlpajaa
open Go.Vi Go.Proofs Go.Proofs.Ytnloddhadlpajaa
set_option linter.unusedVariables false
set_option maxHeartbeats 4000000
set_option maxRecDepth 100000
set_option linter.unusedSimpArgs false

structure Fo where
  a : Sl ByteArray
  b : Sl ByteArray
  c : Sl ByteArray
  s : ByteArray
def foV (x : Fo) : VV := .agg [slV VV.str x.a, slV VV.str x.b, slV VV.str x.c, .str x.s]
theorem r_few2 (l : Sl ByteArray) (hl : Sl.ok l) : ∃ l2 : Sl ByteArray, l2.list.length ≤ 40 ∧ (∀ z ∈ l2.list, z ∈ l.list) ∧ ∀ H, Runs Try.prog pol 16 [.val (slV VV.str l)] H ([.val (slV VV.str l2)], [], H) := by
  unfold Sl.ok at hl
  rcases Nat.lt_or_ge 40 l.list.length with h | h
  · refine ⟨l.map fun l => (l.take (40 : Int).toNat).drop 0, by rw [Sl.list_cut]; simp; omega, fun z hz => ?_, fun H => ?_⟩
    · rw [Sl.list_cut] at hz
      exact List.mem_of_mem_take (List.mem_of_mem_drop hz)
    refine Runs.told (fn := Try.f16) (n := 9) [(0, .val (slV VV.str l))] [(0, .gone 0)] rfl Try.func16 rfl rfl (by kernel_rfl) rfl (by repeat' constructor) (by repeat' constructor) ?_
    repeat' (first
      | intro _
      | refine Wo.cutHiS ?_
      | refine Ws ?_
      | (refine Wt ?_ ?_ <;> intro _ <;> try (exfalso; omega))
      | (refine Wu ?_ ?_ <;> intro _)
      | refine Wv ?_
      | refine Wz ?_
      | fail)
    all_goals rfl
  · refine ⟨l, h, fun z hz => hz, fun H => ?_⟩
    refine Runs.told (fn := Try.f16) (n := 9) [(0, .val (slV VV.str l))] [(0, .gone 0)] rfl Try.func16 rfl rfl (by kernel_rfl) rfl (by repeat' constructor) (by repeat' constructor) ?_
    repeat' (first
      | intro _
      | refine Ws ?_
      | (refine Wt ?_ ?_ <;> intro _ <;> try (exfalso; omega))
      | (refine Wu ?_ ?_ <;> intro _)
      | refine Wv ?_
      | refine Wz ?_
      | fail)
    all_goals rfl
theorem fill3 (a b c : Sl ByteArray) : fillE (List.replicate 3 VV.nils) 1 ([0, 1, 2].zip [slV VV.str a, slV VV.str b, slV VV.str c]) = some ([a, b, c].map (slV VV.str)) := by
  simp [fillE, List.replicate, len_sS]
theorem lstq {Y L : List ByteArray} (h : Y = L) : [VV.lst (Y.map VV.str)].map RV.val = [RV.val (slV VV.str (some L))] := by subst h; rfl
theorem uniE_get {ls : List (Sl ByteArray)} (h : uniE ls = 0) : ∀ z ∈ ls, (chkR z.list).2 = 0 := by
  induction ls with
  | nil => intro z hz; cases hz
  | cons x r ih =>
    rw [uniE] at h
    split at h
    · rename_i hx
      intro z hz
      rcases List.mem_cons.1 hz with e | e
      · rw [e]; exact hx
      · exact ih h z e
    · rename_i hx; exact absurd h hx
theorem r_Union_A (X : Fo) (a b c : Sl ByteArray) (hok : ∀ z ∈ [a, b, c], Sl.ok z) (h40 : a.list.length ≤ 40 ∧ b.list.length ≤ 40 ∧ c.list.length ≤ 40) (hfa : ∀ H, Runs Try.prog pol 16 [.val (slV VV.str X.a)] H ([.val (slV VV.str a)], [], H)) (hfb : ∀ H, Runs Try.prog pol 16 [.val (slV VV.str X.b)] H ([.val (slV VV.str b)], [], H)) (hfc : ∀ H, Runs Try.prog pol 16 [.val (slV VV.str X.c)] H ([.val (slV VV.str c)], [], H))
    (e0 : Int) (he0 : ¬ e0 = 0) (hE : uniE [a, b, c] = e0) : Runs Try.prog pol 6 [.val (foV X)] (Hp.bare 0) ([.val (.bool true)], [], Hp.bare 0) := by
  have hR : uniR [a, b, c] = (none, e0) := by unfold uniR; rw [hE, if_neg he0]
  obtain ⟨h40a, h40b, h40c⟩ := h40
  have hu := r_Union [a, b, c] rfl hok
  rw [hR] at hu
  dsimp only at hu
  unfold foV
  refine Runs.told (fn := Try.f6) (n := 112) [(0, .val (.agg [slV VV.str X.a, slV VV.str X.b, slV VV.str X.c, .str X.s]))] [(0, .gone 0)] rfl Try.func6 rfl rfl (by kernel_rfl) rfl (by repeat' constructor) (by repeat' constructor) ?_
  repeat' (first
    | intro _
    | refine Ws ?_
    | (refine Wt ?_ ?_ <;> intro _ <;> try (exfalso; omega))
    | (refine Wu ?_ ?_ <;> intro _)
    | refine Wo.call0 (hfa) ?_
    | refine Wo.call0 (hfb) ?_
    | refine Wo.call0 (hfc) ?_
    | refine Wo.row (sz := 1) (fun _ => ?_) (hf := fill3 _ _ _) (hn := rfl)
    | refine Wo.callGR (fl := true) hu ?_
    | refine Wv ?_
    | refine Wz ?_
    | fail)
  dsimp only [cond]
  obtain ⟨S, hS⟩ : ∃ S : List (Sl ByteArray), S = [a, b, c] := ⟨_, rfl⟩
  have hS3 : S.length = 3 := by rw [hS]; rfl
  rw [← hS] at hok hE
  rw [← hS]
  refine Wx.loop [3, 4, 5, 6, 7, 8, 9, 13, 62, 63, 64, 65, 66, 67, 68, 69, 70, 71, 72, 73, 74, 75, 76, 77, 78, 79, 80, 81, 82, 83, 84, 85, 86, 87, 88, 89, 90, 91, 92, 93, 94, 95, 96, 97, 98, 99, 100, 101, 102, 103, 104, 105, 106, 107, 108, 109, 110, 111] [0, 1, 16, 19, 22, 29, 30, 36, 62, 64, 66, 68, 69, 73, 83, 91, 96, 99, 103, 108] (fun (i, e) => [(10, .val (iv (i : Nat)))]) (fun (i, e) => []) (fun (i, e) => (i ≤ 3 ∧ e = ()) ∧ uniE (S.drop i) = uniE S) (fun (i, e) => 3 - i) (0, ()) ⟨⟨Nat.zero_le _, rfl⟩, rfl⟩ (fun a x y hG => ?_)
  obtain ⟨i, e⟩ := a
  obtain ⟨g1, g2⟩ := hG
  dsimp only [List.cons_append, List.nil_append]
  rcases Nat.lt_or_ge i 3 with hi | hi
  · have hlt : i < S.length := by rw [hS3]; exact hi
    obtain ⟨z, hz⟩ := at_some hlt
    have hz2 : S[0 + ((i : Nat) : Int).toNat]? = some z := by simpa using hz
    have hzo := hok z (List.mem_of_getElem? hz)
    have h1 := r_RCheck z hzo
    rw [drop_at hz, uniE] at g2
    by_cases hc : (chkR z.list).2 = 0
    · rw [if_pos hc] at g2
      rw [hc] at h1
      generalize (chkR z.list).1 = c1 at h1
      repeat' (first
        | intro _
        | refine Ws ?_
        | (refine Wt ?_ ?_ <;> intro _ <;> try (exfalso; omega))
        | (refine Wu ?_ ?_ <;> intro _)
        | refine Wo.call0 (h1) ?_
        | refine Wo.loadMA ?_ (hv := ld_sS)
        | refine Wv ?_
        | refine Wz ?_
        | fail)
      all_goals first
        | exact Rd (i + 1, ()) (by dsimp only; omega) ⟨⟨by dsimp only; omega, rfl⟩, g2⟩
        | trace_state
    · rw [if_neg hc, hE] at g2
      generalize (chkR z.list).1 = c1 at h1
      rw [g2] at h1
      repeat' (first
        | intro _
        | refine Ws ?_
        | (refine Wt ?_ ?_ <;> intro _ <;> try (exfalso; omega))
        | (refine Wu ?_ ?_ <;> intro _)
        | refine Wo.call0 (h1) ?_
        | refine Wo.loadMA ?_ (hv := ld_sS)
        | refine Wo.callAt r_awake ?_
        | refine Wv ?_
        | refine Wz ?_
        | fail)
      all_goals first
        | rfl
        | (exfalso; rename_i h5; exact h5 rfl)
        | trace_state
  · exfalso
    rw [List.drop_eq_nil_of_le (by omega)] at g2
    exact he0 (by rw [← hE, ← g2]; rfl)
theorem r_Union_B1 (X : Fo) (a b c : Sl ByteArray) (hok : ∀ z ∈ [a, b, c], Sl.ok z) (h40 : a.list.length ≤ 40 ∧ b.list.length ≤ 40 ∧ c.list.length ≤ 40) (hfa : ∀ H, Runs Try.prog pol 16 [.val (slV VV.str X.a)] H ([.val (slV VV.str a)], [], H)) (hfb : ∀ H, Runs Try.prog pol 16 [.val (slV VV.str X.b)] H ([.val (slV VV.str b)], [], H)) (hfc : ∀ H, Runs Try.prog pol 16 [.val (slV VV.str X.c)] H ([.val (slV VV.str c)], [], H))
    (hE : uniE [a, b, c] = 0) (L : List ByteArray) (hL : L = uniL [a, b, c]) (hs : ∀ z ∈ L, strOk z) (hpat : ∀ z ∈ L, patternB z = true) (hne : L ≠ []) (h8 : 8 < (lst L).length) : Runs Try.prog pol 6 [.val (foV X)] (Hp.bare 0) ([.val (.bool true)], [], Hp.bare 0) := by
  have hR : uniR [a, b, c] = (none, 4) := by unfold uniR; rw [hE, if_pos rfl, ← hL, if_pos h8]
  have hlen : L.length ≤ 120 := by rw [hL]; simp [uniL]; omega
  obtain ⟨q, n', hq⟩ : ∃ q n', lst L = q :: n' := by
    cases hx : lst L with
    | nil => exact absurd hx (lst_ne hpat hne)
    | cons q n' => exact ⟨q, n', rfl⟩
  have hq2 : slO (lst L) = some (q :: n') := by rw [hq]; rfl
  have hl := r_Least (some L) (by show L.length ≤ 1000; omega) hs
  rw [show leastF ltB (needF (Sl.list (some L))) (Sl.list (some L)) [] = lst L from rfl, hq2] at hl
  rw [hq] at h8
  have h9 : (Sl.list (some (q :: n'))).length = (q :: n').length := rfl

  obtain ⟨h40a, h40b, h40c⟩ := h40
  have hu := r_Union [a, b, c] rfl hok
  rw [hR] at hu
  dsimp only at hu
  unfold foV
  refine Runs.told (fn := Try.f6) (n := 112) [(0, .val (.agg [slV VV.str X.a, slV VV.str X.b, slV VV.str X.c, .str X.s]))] [(0, .gone 0)] rfl Try.func6 rfl rfl (by kernel_rfl) rfl (by repeat' constructor) (by repeat' constructor) ?_
  repeat' (first
    | intro _
    | refine Ws ?_
    | (refine Wt ?_ ?_ <;> intro _ <;> try (exfalso; omega))
    | (refine Wu ?_ ?_ <;> intro _)
    | refine Wo.call0 (hfa) ?_
    | refine Wo.call0 (hfb) ?_
    | refine Wo.call0 (hfc) ?_
    | refine Wo.row (sz := 1) (fun _ => ?_) (hf := fill3 _ _ _) (hn := rfl)
    | refine Wo.callGR (fl := true) hu ?_
    | refine Wv ?_
    | refine Wz ?_
    | fail)
  dsimp only [cond]
  obtain ⟨S, hS⟩ : ∃ S : List (Sl ByteArray), S = [a, b, c] := ⟨_, rfl⟩
  have hS3 : S.length = 3 := by rw [hS]; rfl
  rw [← hS] at hok hE
  rw [← hS]
  refine Wx.loop [3, 4, 5, 6, 7, 8, 9, 13, 62, 63, 64, 65, 66, 67, 68, 69, 70, 71, 72, 73, 74, 75, 76, 77, 78, 79, 80, 81, 82, 83, 84, 85, 86, 87, 88, 89, 90, 91, 92, 93, 94, 95, 96, 97, 98, 99, 100, 101, 102, 103, 104, 105, 106, 107, 108, 109, 110, 111] [0, 1, 16, 19, 22, 29, 30, 36, 62, 64, 66, 68, 69, 73, 83, 91, 96, 99, 103, 108] (fun (i, e) => [(10, .val (iv (i : Nat)))]) (fun (i, e) => []) (fun (i, e) => (i ≤ 3 ∧ e = ()) ∧ uniE (S.drop i) = uniE S) (fun (i, e) => 3 - i) (0, ()) ⟨⟨Nat.zero_le _, rfl⟩, rfl⟩ (fun a x y hG => ?_)
  obtain ⟨i, e⟩ := a
  obtain ⟨g1, g2⟩ := hG
  dsimp only [List.cons_append, List.nil_append]
  rcases Nat.lt_or_ge i 3 with hi | hi
  · have hlt : i < S.length := by rw [hS3]; exact hi
    obtain ⟨z, hz⟩ := at_some hlt
    have hz2 : S[0 + ((i : Nat) : Int).toNat]? = some z := by simpa using hz
    have hzo := hok z (List.mem_of_getElem? hz)
    have h1 := r_RCheck z hzo
    rw [drop_at hz, uniE] at g2
    have hc : (chkR z.list).2 = 0 := uniE_get hE z (List.mem_of_getElem? hz)
    rw [if_pos hc] at g2
    rw [hc] at h1
    generalize (chkR z.list).1 = c1 at h1
    repeat' (first
      | intro _
      | refine Ws ?_
      | (refine Wt ?_ ?_ <;> intro _ <;> try (exfalso; omega))
      | (refine Wu ?_ ?_ <;> intro _)
      | refine Wo.call0 (h1) ?_
      | refine Wo.loadMA ?_ (hv := ld_sS)
      | refine Wv ?_
      | refine Wz ?_
      | fail)
    all_goals first
      | exact Rd (i + 1, ()) (by dsimp only; omega) ⟨⟨by dsimp only; omega, rfl⟩, g2⟩
      | trace_state
  · repeat' (first
      | intro _
      | refine Ws ?_
      | (refine Wt ?_ ?_ <;> intro _ <;> try (exfalso; omega))
      | (refine Wu ?_ ?_ <;> intro _)
      | refine Wo.appF (sz := 1) (enc := VV.str) (fun _ _ _ => ?_) (fun _ => ?_)
      | refine Wo.appS (enc := VV.str) (fun _ => ?_) (hm := (by simp))
      | refine Wo.callGR (fl := false) hl ?_ (he := lstq (by rw [hL]; simp [uniL, List.take_of_length_le, *]))
      | refine Wo.callAt r_awake ?_
      | refine Wv ?_
      | refine Wz ?_
      | fail)
    all_goals first
      | rfl
      | (exfalso; rename_i h5; exact h5 rfl)
      | (exfalso; omega)
      | (exfalso; exact hne (by rw [hL]; simp [uniL, *]))
      | trace_state
theorem r_Union_B2 (X : Fo) (a b c : Sl ByteArray) (hok : ∀ z ∈ [a, b, c], Sl.ok z) (h40 : a.list.length ≤ 40 ∧ b.list.length ≤ 40 ∧ c.list.length ≤ 40) (hfa : ∀ H, Runs Try.prog pol 16 [.val (slV VV.str X.a)] H ([.val (slV VV.str a)], [], H)) (hfb : ∀ H, Runs Try.prog pol 16 [.val (slV VV.str X.b)] H ([.val (slV VV.str b)], [], H)) (hfc : ∀ H, Runs Try.prog pol 16 [.val (slV VV.str X.c)] H ([.val (slV VV.str c)], [], H))
    (hE : uniE [a, b, c] = 0) (L : List ByteArray) (hL : L = uniL [a, b, c]) (hs : ∀ z ∈ L, strOk z) (hpat : ∀ z ∈ L, patternB z = true) (hne : L ≠ []) (h8 : ¬ 8 < (lst L).length) (bu ba bb bc : Bool) (hbu : ∀ n : Sl ByteArray, n.list = lst L → hasF n.list X.s = bu) (hba : hasF a.list X.s = ba) (hbb : hasF b.list X.s = bb) (hbc : hasF c.list X.s = bc) (hbool : bu = (ba || bb || bc)) : Runs Try.prog pol 6 [.val (foV X)] (Hp.bare 0) ([.val (.bool true)], [], Hp.bare 0) := by
  have hR : uniR [a, b, c] = (slO (lst L), 0) := by unfold uniR; rw [hE, if_pos rfl, ← hL, if_neg h8]
  have hlen : L.length ≤ 120 := by rw [hL]; simp [uniL]; omega
  obtain ⟨q, n', hq⟩ : ∃ q n', lst L = q :: n' := by
    cases hx : lst L with
    | nil => exact absurd hx (lst_ne hpat hne)
    | cons q n' => exact ⟨q, n', rfl⟩
  have hq2 : slO (lst L) = some (q :: n') := by rw [hq]; rfl
  have hl := r_Least (some L) (by show L.length ≤ 1000; omega) hs
  rw [show leastF ltB (needF (Sl.list (some L))) (Sl.list (some L)) [] = lst L from rfl, hq2] at hl
  rw [hq] at h8
  have h9 : (Sl.list (some (q :: n'))).length = (q :: n').length := rfl
  rw [hq2] at hR
  have f0 := r_Has (some (q :: n')) (by unfold Sl.ok; rw [h9]; omega) X.s
  rw [hbu _ (by rw [hq]; rfl)] at f0
  have f1 := r_Has a (hok a (by simp)) X.s
  rw [hba] at f1
  have f2 := r_Has b (hok b (by simp)) X.s
  rw [hbb] at f2
  have f3 := r_Has c (hok c (by simp)) X.s
  rw [hbc] at f3
  have f4 := r_Same (some (q :: n')) (some (q :: n')) (by unfold Sl.ok; rw [h9]; omega) rfl
  clear hbu hba hbb hbc
  subst hbool

  obtain ⟨h40a, h40b, h40c⟩ := h40
  have hu := r_Union [a, b, c] rfl hok
  rw [hR] at hu
  dsimp only at hu
  unfold foV
  refine Runs.told (fn := Try.f6) (n := 112) [(0, .val (.agg [slV VV.str X.a, slV VV.str X.b, slV VV.str X.c, .str X.s]))] [(0, .gone 0)] rfl Try.func6 rfl rfl (by kernel_rfl) rfl (by repeat' constructor) (by repeat' constructor) ?_
  repeat' (first
    | intro _
    | refine Ws ?_
    | (refine Wt ?_ ?_ <;> intro _ <;> try (exfalso; omega))
    | (refine Wu ?_ ?_ <;> intro _)
    | refine Wo.call0 (hfa) ?_
    | refine Wo.call0 (hfb) ?_
    | refine Wo.call0 (hfc) ?_
    | refine Wo.row (sz := 1) (fun _ => ?_) (hf := fill3 _ _ _) (hn := rfl)
    | refine Wo.callGR (fl := false) hu ?_
    | refine Wv ?_
    | refine Wz ?_
    | fail)
  dsimp only [cond]
  obtain ⟨S, hS⟩ : ∃ S : List (Sl ByteArray), S = [a, b, c] := ⟨_, rfl⟩
  have hS3 : S.length = 3 := by rw [hS]; rfl
  rw [← hS] at hok hE
  rw [← hS]
  refine Wx.loop [3, 4, 5, 6, 7, 8, 9, 13, 62, 63, 64, 65, 66, 67, 68, 69, 70, 71, 72, 73, 74, 75, 76, 77, 78, 79, 80, 81, 82, 83, 84, 85, 86, 87, 88, 89, 90, 91, 92, 93, 94, 95, 96, 97, 98, 99, 100, 101, 102, 103, 104, 105, 106, 107, 108, 109, 110, 111] [0, 1, 16, 19, 22, 29, 30, 36, 62, 64, 66, 68, 69, 73, 83, 91, 96, 99, 103, 108] (fun (i, e) => [(10, .val (iv (i : Nat)))]) (fun (i, e) => []) (fun (i, e) => (i ≤ 3 ∧ e = ()) ∧ uniE (S.drop i) = uniE S) (fun (i, e) => 3 - i) (0, ()) ⟨⟨Nat.zero_le _, rfl⟩, rfl⟩ (fun a x y hG => ?_)
  obtain ⟨i, e⟩ := a
  obtain ⟨g1, g2⟩ := hG
  dsimp only [List.cons_append, List.nil_append]
  rcases Nat.lt_or_ge i 3 with hi | hi
  · have hlt : i < S.length := by rw [hS3]; exact hi
    obtain ⟨z, hz⟩ := at_some hlt
    have hz2 : S[0 + ((i : Nat) : Int).toNat]? = some z := by simpa using hz
    have hzo := hok z (List.mem_of_getElem? hz)
    have h1 := r_RCheck z hzo
    rw [drop_at hz, uniE] at g2
    have hc : (chkR z.list).2 = 0 := uniE_get hE z (List.mem_of_getElem? hz)
    rw [if_pos hc] at g2
    rw [hc] at h1
    generalize (chkR z.list).1 = c1 at h1
    repeat' (first
      | intro _
      | refine Ws ?_
      | (refine Wt ?_ ?_ <;> intro _ <;> try (exfalso; omega))
      | (refine Wu ?_ ?_ <;> intro _)
      | refine Wo.call0 (h1) ?_
      | refine Wo.loadMA ?_ (hv := ld_sS)
      | refine Wv ?_
      | refine Wz ?_
      | fail)
    all_goals first
      | exact Rd (i + 1, ()) (by dsimp only; omega) ⟨⟨by dsimp only; omega, rfl⟩, g2⟩
      | trace_state
  · cases ba <;> cases bb <;> cases bc
    all_goals
      repeat' (first
        | intro _
        | refine Ws ?_
        | (refine Wt ?_ ?_ <;> intro _ <;> try (exfalso; omega))
        | (refine Wu ?_ ?_ <;> intro _)
        | refine Wo.appF (sz := 1) (enc := VV.str) (fun _ _ _ => ?_) (fun _ => ?_)
        | refine Wo.appS (enc := VV.str) (fun _ => ?_) (hm := (by simp))
        | refine Wo.callGR (fl := false) hl ?_ (he := lstq (by rw [hL]; simp [uniL, List.take_of_length_le, *]))
        | refine Wo.callAt r_awake ?_
        | refine Wo.call0 (f0) ?_
        | refine Wo.call0 (f1) ?_
        | refine Wo.call0 (f2) ?_
        | refine Wo.call0 (f3) ?_
        | refine Wo.call0 (f4) ?_
        | refine Wv ?_
        | refine Wz ?_
        | fail)
      all_goals first
        | rfl
        | (exfalso; rename_i h5; exact h5 rfl)
        | (exfalso; omega)
        | (exfalso; exact hne (by rw [hL]; simp [uniL, *]))
        | trace_state
theorem r_Union_B3 (X : Fo) (a b c : Sl ByteArray) (hok : ∀ z ∈ [a, b, c], Sl.ok z) (h40 : a.list.length ≤ 40 ∧ b.list.length ≤ 40 ∧ c.list.length ≤ 40) (hfa : ∀ H, Runs Try.prog pol 16 [.val (slV VV.str X.a)] H ([.val (slV VV.str a)], [], H)) (hfb : ∀ H, Runs Try.prog pol 16 [.val (slV VV.str X.b)] H ([.val (slV VV.str b)], [], H)) (hfc : ∀ H, Runs Try.prog pol 16 [.val (slV VV.str X.c)] H ([.val (slV VV.str c)], [], H))
    (hE : uniE [a, b, c] = 0) (ha0 : a.list = []) (hb0 : b.list = []) (hc0 : c.list = []) : Runs Try.prog pol 6 [.val (foV X)] (Hp.bare 0) ([.val (.bool true)], [], Hp.bare 0) := by
  have hR : uniR [a, b, c] = (none, 0) := by
    have hL : uniL [a, b, c] = [] := by simp [uniL, ha0, hb0, hc0]
    unfold uniR; rw [hE, if_pos rfl, hL]; rfl
  have hl : ∀ H, Runs Try.prog pol 14 [.val (slV VV.str (some []))] H ([.val (slV VV.str none)], [], H) := r_Least (some []) (Nat.zero_le _) (fun z hz => by cases hz)
  have f0 : ∀ H, Runs Try.prog pol 12 [.val (slV VV.str none), .val (.str X.s)] H ([.val (.bool false)], [], H) := r_Has none (by unfold Sl.ok; exact Nat.zero_le _) X.s
  have g0 : hasF [] X.s = false := rfl
  have f1 := r_Has a (hok a (by simp)) X.s
  rw [ha0, g0] at f1
  have f2 := r_Has b (hok b (by simp)) X.s
  rw [hb0, g0] at f2
  have f3 := r_Has c (hok c (by simp)) X.s
  rw [hc0, g0] at f3
  have f4 := r_Same none none (by unfold Sl.ok; exact Nat.zero_le _) rfl

  obtain ⟨h40a, h40b, h40c⟩ := h40
  have hu := r_Union [a, b, c] rfl hok
  rw [hR] at hu
  dsimp only at hu
  unfold foV
  refine Runs.told (fn := Try.f6) (n := 112) [(0, .val (.agg [slV VV.str X.a, slV VV.str X.b, slV VV.str X.c, .str X.s]))] [(0, .gone 0)] rfl Try.func6 rfl rfl (by kernel_rfl) rfl (by repeat' constructor) (by repeat' constructor) ?_
  repeat' (first
    | intro _
    | refine Ws ?_
    | (refine Wt ?_ ?_ <;> intro _ <;> try (exfalso; omega))
    | (refine Wu ?_ ?_ <;> intro _)
    | refine Wo.call0 (hfa) ?_
    | refine Wo.call0 (hfb) ?_
    | refine Wo.call0 (hfc) ?_
    | refine Wo.row (sz := 1) (fun _ => ?_) (hf := fill3 _ _ _) (hn := rfl)
    | refine Wo.callGR (fl := true) hu ?_
    | refine Wv ?_
    | refine Wz ?_
    | fail)
  dsimp only [cond]
  obtain ⟨S, hS⟩ : ∃ S : List (Sl ByteArray), S = [a, b, c] := ⟨_, rfl⟩
  have hS3 : S.length = 3 := by rw [hS]; rfl
  rw [← hS] at hok hE
  rw [← hS]
  refine Wx.loop [3, 4, 5, 6, 7, 8, 9, 13, 62, 63, 64, 65, 66, 67, 68, 69, 70, 71, 72, 73, 74, 75, 76, 77, 78, 79, 80, 81, 82, 83, 84, 85, 86, 87, 88, 89, 90, 91, 92, 93, 94, 95, 96, 97, 98, 99, 100, 101, 102, 103, 104, 105, 106, 107, 108, 109, 110, 111] [0, 1, 16, 19, 22, 29, 30, 36, 62, 64, 66, 68, 69, 73, 83, 91, 96, 99, 103, 108] (fun (i, e) => [(10, .val (iv (i : Nat)))]) (fun (i, e) => []) (fun (i, e) => (i ≤ 3 ∧ e = ()) ∧ uniE (S.drop i) = uniE S) (fun (i, e) => 3 - i) (0, ()) ⟨⟨Nat.zero_le _, rfl⟩, rfl⟩ (fun a x y hG => ?_)
  obtain ⟨i, e⟩ := a
  obtain ⟨g1, g2⟩ := hG
  dsimp only [List.cons_append, List.nil_append]
  rcases Nat.lt_or_ge i 3 with hi | hi
  · have hlt : i < S.length := by rw [hS3]; exact hi
    obtain ⟨z, hz⟩ := at_some hlt
    have hz2 : S[0 + ((i : Nat) : Int).toNat]? = some z := by simpa using hz
    have hzo := hok z (List.mem_of_getElem? hz)
    have h1 := r_RCheck z hzo
    rw [drop_at hz, uniE] at g2
    have hc : (chkR z.list).2 = 0 := uniE_get hE z (List.mem_of_getElem? hz)
    rw [if_pos hc] at g2
    rw [hc] at h1
    generalize (chkR z.list).1 = c1 at h1
    repeat' (first
      | intro _
      | refine Ws ?_
      | (refine Wt ?_ ?_ <;> intro _ <;> try (exfalso; omega))
      | (refine Wu ?_ ?_ <;> intro _)
      | refine Wo.call0 (h1) ?_
      | refine Wo.loadMA ?_ (hv := ld_sS)
      | refine Wv ?_
      | refine Wz ?_
      | fail)
    all_goals first
      | exact Rd (i + 1, ()) (by dsimp only; omega) ⟨⟨by dsimp only; omega, rfl⟩, g2⟩
      | trace_state
  · repeat' (first
      | intro _
      | refine Ws ?_
      | (refine Wt ?_ ?_ <;> intro _ <;> try (exfalso; omega))
      | (refine Wu ?_ ?_ <;> intro _)
      | refine Wo.appF (sz := 1) (enc := VV.str) (fun _ _ _ => ?_) (fun _ => ?_)
      | refine Wo.callGR (fl := true) hl ?_
      | refine Wo.callAt r_awake ?_
      | refine Wo.call0 (f0) ?_
      | refine Wo.call0 (f1) ?_
      | refine Wo.call0 (f2) ?_
      | refine Wo.call0 (f3) ?_
      | refine Wo.call0 (f4) ?_
      | refine Wv ?_
      | refine Wz ?_
      | fail)
    all_goals first
      | rfl
      | (exfalso; rename_i h5; exact h5 rfl)
      | (exfalso; rename_i h5; exact h5 ha0)
      | (exfalso; rename_i h5; exact h5 hb0)
      | (exfalso; rename_i h5; exact h5 hc0)
      | (exfalso; rename_i h5; exact absurd h5 (by decide))
      | (exfalso; rename_i h5 h6; exact absurd h5 (by decide))
      | trace_state
theorem hasF_any {l : List ByteArray} (h : rightF l = true) (s : ByteArray) : hasF l s = l.any fun p => matchB p s := by unfold hasF; rw [h]; rfl
theorem any3 (a b c : Sl ByteArray) (f : ByteArray → Bool) : (uniL [a, b, c]).any f = (a.list.any f || b.list.any f || c.list.any f) := by
  simp [uniL, List.any_append, Bool.or_assoc]
theorem r_FilterUnion (X : Fo) (ha : Sl.ok X.a) (hb : Sl.ok X.b) (hc : Sl.ok X.c) (sa : ∀ z ∈ X.a.list, strOk z) (sb : ∀ z ∈ X.b.list, strOk z) (sc : ∀ z ∈ X.c.list, strOk z) (H : Hp) (hH : H = Hp.bare 0) : Runs Try.prog pol 6 [.val (foV X)] H ([.val (.bool true)], [], H) := by
  subst hH
  obtain ⟨a, la, ma, hfa⟩ := r_few2 X.a ha
  obtain ⟨b, lb, mb, hfb⟩ := r_few2 X.b hb
  obtain ⟨c, lc, mc, hfc⟩ := r_few2 X.c hc
  have hok : ∀ z ∈ [a, b, c], Sl.ok z := fun z hz => by
    unfold Sl.ok
    simp only [List.mem_cons, List.not_mem_nil, or_false] at hz
    rcases hz with rfl | rfl | rfl <;> omega
  by_cases hE : uniE [a, b, c] = 0
  · have hch := uniE_get hE
    have ra := right_chk (hch a (by simp))
    have rb := right_chk (hch b (by simp))
    have rc := right_chk (hch c (by simp))
    have hmem : ∀ z, z ∈ uniL [a, b, c] ↔ z ∈ a.list ∨ z ∈ b.list ∨ z ∈ c.list := fun z => by simp [uniL]
    have hpat : ∀ z ∈ uniL [a, b, c], patternB z = true := fun z hz => by
      rcases (hmem z).1 hz with h | h | h
      · exact (right_iff.1 ra).2 z h
      · exact (right_iff.1 rb).2 z h
      · exact (right_iff.1 rc).2 z h
    have hs : ∀ z ∈ uniL [a, b, c], strOk z := fun z hz => by
      rcases (hmem z).1 hz with h | h | h
      · exact sa z (ma z h)
      · exact sb z (mb z h)
      · exact sc z (mc z h)
    by_cases hne : uniL [a, b, c] = []
    · have h0 : a.list = [] ∧ b.list = [] ∧ c.list = [] := by simpa [uniL] using hne
      exact r_Union_B3 X a b c hok ⟨la, lb, lc⟩ hfa hfb hfc hE h0.1 h0.2.1 h0.2.2
    · by_cases h8 : 8 < (lst (uniL [a, b, c])).length
      · exact r_Union_B1 X a b c hok ⟨la, lb, lc⟩ hfa hfb hfc hE _ rfl hs hpat hne h8
      · refine r_Union_B2 X a b c hok ⟨la, lb, lc⟩ hfa hfb hfc hE _ rfl hs hpat hne h8 _ _ _ _ (fun n hn => ?_) (hasF_any ra X.s) (hasF_any rb X.s) (hasF_any rc X.s) rfl
        have hr : rightF (lst (uniL [a, b, c])) = true := right_iff.2 ⟨by omega, fun z hz => hpat z (lst_mem.1 hz).1⟩
        rw [hn, hasF_any hr, any_lst hpat, any3]
  · exact r_Union_A X a b c hok ⟨la, lb, lc⟩ hfa hfb hfc _ hE rfl
end Go.Vi.CYtnloddhadlpajaa
