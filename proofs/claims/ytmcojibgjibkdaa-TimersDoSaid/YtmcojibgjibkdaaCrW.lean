/-
  TimersParts: moved in parts it is the same.
-/
import Derived.Test.YtmcojibgjibkdaaCrV
namespace Go.Vi.CYtmcojibgjibkdaa
open Go.Vi Go.Proofs Go.Proofs.Ytmcojibgjibkdaa
set_option linter.unusedVariables false
set_option maxHeartbeats 16000000
set_option maxRecDepth 100000
set_option linter.unusedSimpArgs false

/-- '!=' of one timer and itself -/
theorem Wo.neT {f : FuncId} {ops : Array Oper} {K : Fr → Hp → Prop} {n : Nat} {x : Nat → SV} {u : List (Nat × SV)} {y : Nat → TC} {w : List (Nat × TC)} {H : Hp} {l : List Oper} {d : Tmp} {ty : TypeId} {pos : String} {after : Array Edge} {g : Option (Nat × Bool)} {ut : TypeId} {p q : Operand} (a : Tm)
    (h : WX Try.prog pol f ops l K n x ((d, .val (.bool false)) :: u) y w H) (hx : evX n x u p = some (.val (tmV a)) := by rfl) (hy : evX n x u q = some (.val (tmV a)) := by rfl) (hw : openX ops g n x u = true := by rfl) :
    WX Try.prog pol f ops (⟨some d, .binOp .neq 50 p q ut, ty, pos, after, g⟩ :: l) K n x u y w H := by
  refine Wo.neS (fun _ => h) (fun hc => ?_) hx hy Try.underlying50 rfl (by kernel_rfl) (by kernel_rfl) hw
  exfalso
  simp at hc
theorem r_Same (s s' : Sl Tm) (h : s.list = s'.list) (hs : s.list.length ≤ 1000000) (H : Hp) : Runs Try.prog pol 17 [.val (slV tmV s), .val (slV tmV s')] H ([.val (.bool true)], [], H) := by
  have hl : s'.list.length = s.list.length := by rw [h]
  refine Runs.told (fn := Try.f17) (n := 26) [(0, .val (slV tmV s)), (1, .val (slV tmV s'))] [(0, .gone 0), (1, .gone 0)] rfl Try.func17 rfl rfl (by kernel_rfl) rfl (by repeat' constructor) (by repeat' constructor) ?_
  repeat' (first
    | intro _
    | refine Ws ?_
    | (refine Wt ?_ ?_ <;> intro _ <;> try (exfalso; omega))
    | (refine Wu ?_ ?_ <;> intro _)
    | refine Wv ?_
    | refine Wz ?_
    | fail)
  refine Wx.loop [0, 1] [0, 1] (fun k => [(5, .val (iv (k : Nat)))]) (fun k => []) (fun k => k ≤ s.list.length ∧ True) (fun k => s.list.length - k) 0 ⟨Nat.zero_le _, trivial⟩ (fun k x y hG => ?_)
  obtain ⟨h1, h2⟩ := hG
  dsimp only [List.cons_append, List.nil_append]
  rcases Nat.lt_or_ge k s.list.length with hk | hk
  · obtain ⟨z, hz⟩ := at_some hk
    have hz2 : s'.list[k]? = some z := by rw [← h]; exact hz
    repeat' (first
      | intro _
      | refine Wo.neT z ?_
      | refine Ws ?_
      | (refine Wt ?_ ?_ <;> intro _ <;> try (exfalso; omega))
      | (refine Wu ?_ ?_ <;> intro _)
      | refine Wv ?_
      | refine Wz ?_
      | fail)
    exact Rd (k + 1) (by omega) ⟨by omega, trivial⟩
  · repeat' (first
      | intro _
      | refine Ws ?_
      | (refine Wt ?_ ?_ <;> intro _ <;> try (exfalso; omega))
      | (refine Wu ?_ ?_ <;> intro _)
      | refine Wv ?_
      | refine Wz ?_
      | fail)
    rfl
section
variable {P : Program} {pol : Pol} {f : FuncId} {ops : Array Oper} {K : Fr → Hp → Prop} {n : Nat} {x : Nat → SV} {u : List (Nat × SV)} {y : Nat → TC} {w : List (Nat × TC)} {H : Hp} {l : List Oper} {d : Tmp} {ty : TypeId} {pos : String} {after : Array Edge} {g : Option (Nat × Bool)} {t e : TypeId} {p q : Operand} {sz : Nat}
/-- a whole slice, to nil (a copy) -/
theorem Wo.appNs {α : Type} {enc : α → VV} {s : Sl α} {c : Call} {ti : TypeInfo} (h : ∀ g2, s.list ≠ [] → WX P pol f ops l K n x ((d, .own d g2 0 s.list.length sz) :: u) y ((d, .row g2 (s.list.map enc) sz false) :: w) H) (h' : s.list = [] → WX P pol f ops l K n x ((d, .val .nils) :: u) y w H)
    (hc : c.callee = .builtin .append := by rfl) (ha : c.args.toList = [p, q] := by rfl) (hct : c.argTypes.toList = [t, t] := by rfl) (hx : evX n x u p = some (.val .nils) := by rfl)
    (hy : evX n x u q = some (.val (slV enc s)) := by rfl) (he : elemOfSlice P t = some e := by rfl) (hs : sizeT P e = some sz := by rfl) (hi' : P.info? e = some ti := by rfl) (hzz : zeroOk P e sz = true := by rfl)
    (hk : (Nat.blt d n && Nat.blt 0 sz && Nat.ble ti.bytes 65536) = true := by rfl) (hnew : ∀ a, okElem sz (enc a) = true := by intro _; rfl) (hr : s.list.length ≤ 1073741824 := by omega) (hw : openX ops g n x u = true := by rfl) :
    WX P pol f ops (⟨some d, .call c, ty, pos, after, g⟩ :: l) K n x u y w H := by
  obtain ⟨ce, ar, at'⟩ := c
  simp only at hc ha hct
  subst hc
  simp only [Bool.and_eq_true] at hk
  obtain ⟨⟨c1, c3⟩, c4⟩ := hk
  have c1 := blt_lt c1; have c3 := blt_lt c3; have c4 := Nat.le_of_ble_eq_true c4
  have hrr : roomOk s.list.length ti.bytes = true := by
    have h2 : s.list.length * ti.bytes ≤ 1073741824 * 65536 := Nat.mul_le_mul hr c4
    simp only [roomOk, Bool.and_eq_true, decide_eq_true_eq]; omega
  have hn : (s.list.map enc).all (okElem sz) = true := by simp [hnew]
  by_cases hne : s.list = []
  · exact WX.told (fun call => by simp only [stepV, ha, hct, if_true, appendV, hx, hy, he, hs, hi', added_sl, mk_length, c1, c3, hn, hzz, and_self, List.all_nil, hne, List.map_nil, List.isEmpty_nil]) (h' hne) hw
  · have : (s.list.map enc).isEmpty = false := by
      cases hl : s.list with
      | nil => exact absurd hl hne
      | cons _ _ => rfl
    exact WX.told (fun call => by simp only [stepV, ha, hct, if_true, appendV, hx, hy, he, hs, hi', added_sl, mk_length, c1, c3, hn, hzz, and_self, this, Bool.false_eq_true, if_false, List.length_map, hrr, mk_set]) (h ((tget (lay n y w) d).gen + 1) hne) hw
end
theorem goT_comp {n1 n2 : Int} (h : n1 ≤ n2) : ∀ {ts : List Tm}, (goT n2 ts).1 = (goT n1 ts).1 ++ (goT n2 (goT n1 ts).2).1 ∧ (goT n2 ts).2 = (goT n2 (goT n1 ts).2).2
  | [] => ⟨rfl, rfl⟩
  | t :: r => by
    obtain ⟨h1, h2⟩ := goT_comp h (ts := r)
    by_cases ht : t.due ≤ n1
    · have e1 : goT n1 (t :: r) = (t.key :: (goT n1 r).1, (goT n1 r).2) := by rw [goT, if_pos ht]
      have e2 : goT n2 (t :: r) = (t.key :: (goT n2 r).1, (goT n2 r).2) := by rw [goT, if_pos (by omega)]
      rw [e1, e2]
      exact ⟨by rw [h1]; rfl, h2⟩
    · have e1 : goT n1 (t :: r) = ([], t :: r) := by rw [goT, if_neg ht]
      rw [e1]
      exact ⟨rfl, rfl⟩
theorem r_TimersParts (s : Sl Ac) (a b : Int) (hs : Sl.ok s ∧ ∀ y ∈ s.list, y.ok) (ha : w64 a) (hb : w64 b) : ∃ H, Runs Try.prog pol 5 [.val (slV acV s), .val (iv a), .val (iv b)] (Hp.bare 0) ([.val (.bool true)], [], H) := by
  obtain ⟨c, xo, H1, S1, R1, B1, T1, hl⟩ := r_made s hs (Hp.bare 0)
  obtain ⟨d, yo, H2, S2, R2, B2, T2, _⟩ := r_made s hs H1
  obtain ⟨H3, R3, T3⟩ := r_awakeH H2
  have C3 : Ck H3 c (runF s.list 90).1 (runF s.list 90).2 S1 := (B1.ck.keep (T2.keep fun q hq => ⟨B1.ck.lt q hq, by simp⟩)).keep (T3.keep fun q hq => ⟨Nat.lt_of_lt_of_le (B1.ck.lt q hq) T2.nx, by simp⟩)
  have D3 : Ck H3 d (runF s.list 90).1 (runF s.list 90).2 S2 := B2.ck.keep (T3.keep fun q hq => ⟨B2.ck.lt q hq, by simp⟩)
  have apart : ∀ q ∈ S1, q ∉ S2 := fun q h1 h2 => by
    have := B1.ck.lt q h1
    rcases T2.gr q (List.mem_cons_of_mem _ h2) with e | e
    · simp at e
    · omega
  have hok := B1.ok
  have hso := B1.so
  generalize runF s.list 90 = p at *
  obtain ⟨now, ts⟩ := p
  dsimp only at *
  unfold w64 at ha hb
  have hok2 := hok
  unfold nowOk at hok2
  by_cases hbad : a < 0 ∨ b < 0 ∨ a > 1099511627776 ∨ b > 1099511627776
  · obtain ⟨H4, R4, T4⟩ := r_awakeH H3
    refine ⟨H4, ?_⟩
    refine Runs.toldH (fn := Try.f5) (n := 124) [(0, .val (slV acV s)), (1, .val (iv a)), (2, .val (iv b))] [(0, .gone 0), (1, .gone 0), (2, .gone 0)] rfl Try.func5 rfl rfl (by kernel_rfl) rfl (by repeat' constructor) (by repeat' constructor) ?_
    repeat' (first
      | intro _
      | refine Ws ?_
      | (refine Wt ?_ ?_ <;> intro _ <;> try (exfalso; omega))
      | (refine Wu ?_ ?_ <;> intro _)
      | refine Wo.callI R1 ?_
      | refine Wo.callI R2 ?_
      | refine Wo.callI R3 ?_
      | refine Wo.callI R4 ?_
      | refine Wl.retH rfl rfl
      | refine Wv ?_
      | refine Wz ?_
      | fail)
    all_goals first
      | rfl
      | (exfalso; omega)
  · by_cases hab : badN now (a + b)
    · have RG := r_GoBad C3 hok hab
      by_cases hA : badN now a
      · have RA := r_GoBad D3 hok hA
        by_cases hB : badN now b
        · have RB := r_GoBad D3 hok hB
          refine ⟨H3, ?_⟩
          refine Runs.toldH (fn := Try.f5) (n := 124) [(0, .val (slV acV s)), (1, .val (iv a)), (2, .val (iv b))] [(0, .gone 0), (1, .gone 0), (2, .gone 0)] rfl Try.func5 rfl rfl (by kernel_rfl) rfl (by repeat' constructor) (by repeat' constructor) ?_
          repeat' (first
            | intro _
            | refine Ws ?_
            | (refine Wt ?_ ?_ <;> intro _ <;> try (exfalso; omega))
            | (refine Wu ?_ ?_ <;> intro _)
            | refine Wo.callI R1 ?_
            | refine Wo.callI R2 ?_
            | refine Wo.callI R3 ?_
            | refine Wo.callI RG ?_
            | refine Wo.callI RA ?_
            | refine Wo.callI RB ?_
            | refine Wl.retH rfl rfl
            | refine Wv ?_
            | refine Wz ?_
            | fail)
          all_goals first
            | rfl
            | (exfalso; omega)
        · obtain ⟨H4, S4, RB, _⟩ := r_Go D3 hok hB hso (by omega)
          refine ⟨H4, ?_⟩
          rcases goR_cases (goT (now + b) ts).1 with ⟨ho, hr⟩ | ⟨a1, r1, ho, hr⟩
          all_goals
            rw [hr] at RB
            refine Runs.toldH (fn := Try.f5) (n := 124) [(0, .val (slV acV s)), (1, .val (iv a)), (2, .val (iv b))] [(0, .gone 0), (1, .gone 0), (2, .gone 0)] rfl Try.func5 rfl rfl (by kernel_rfl) rfl (by repeat' constructor) (by repeat' constructor) ?_
            repeat' (first
              | intro _
              | refine Ws ?_
              | (refine Wt ?_ ?_ <;> intro _ <;> try (exfalso; omega))
              | (refine Wu ?_ ?_ <;> intro _)
              | refine Wo.callI R1 ?_
              | refine Wo.callI R2 ?_
              | refine Wo.callI R3 ?_
              | refine Wo.callI RG ?_
              | refine Wo.callI RA ?_
              | refine Wo.callI RB ?_
              | refine Wo.callIO RB (fun _ => ?_)
              | refine Wl.retH rfl rfl
              | refine Wv ?_
              | refine Wz ?_
              | fail)
            all_goals first
              | rfl
              | (exfalso; omega)
      · obtain ⟨H4, S4, RA, D4, _⟩ := r_Go D3 hok hA hso (by omega)
        have hB : badN (now + a) b := by unfold badN at *; omega
        have hok4 : nowOk (now + a) := by unfold badN at hA; unfold nowOk; omega
        have RB := r_GoBad D4 hok4 hB
        refine ⟨H4, ?_⟩
        rcases goR_cases (goT (now + a) ts).1 with ⟨ho, hr⟩ | ⟨a1, r1, ho, hr⟩
        all_goals
          rw [hr] at RA
          refine Runs.toldH (fn := Try.f5) (n := 124) [(0, .val (slV acV s)), (1, .val (iv a)), (2, .val (iv b))] [(0, .gone 0), (1, .gone 0), (2, .gone 0)] rfl Try.func5 rfl rfl (by kernel_rfl) rfl (by repeat' constructor) (by repeat' constructor) ?_
          repeat' (first
            | intro _
            | refine Ws ?_
            | (refine Wt ?_ ?_ <;> intro _ <;> try (exfalso; omega))
            | (refine Wu ?_ ?_ <;> intro _)
            | refine Wo.callI R1 ?_
            | refine Wo.callI R2 ?_
            | refine Wo.callI R3 ?_
            | refine Wo.callI RG ?_
            | refine Wo.callI RA ?_
            | refine Wo.callIO RA (fun _ => ?_)
            | refine Wo.callI RB ?_
            | refine Wl.retH rfl rfl
            | refine Wv ?_
            | refine Wz ?_
            | fail)
          all_goals first
            | rfl
            | (exfalso; omega)
    · have hA : ¬ badN now a := by unfold badN at *; omega
      have hok4 : nowOk (now + a) := by unfold badN at hA; unfold nowOk; omega
      have hok5 : nowOk (now + (a + b)) := by unfold badN at hab; unfold nowOk; omega
      have hB : ¬ badN (now + a) b := by unfold badN at *; omega
      obtain ⟨H4, S4, RG, C4, T4⟩ := r_Go C3 hok hab hso (by omega)
      have D4 : Ck H4 d now ts S2 := D3.keep (T4.keep fun q hq => ⟨D3.lt q hq, fun e => apart q e hq⟩)
      obtain ⟨H5, S5, RA, D5, T5⟩ := r_Go D4 hok hA hso (by omega)
      have hl5 := goT_len (now := now + a) (ts := ts)
      obtain ⟨H6, S6, RB, D6, T6⟩ := r_Go D5 hok4 hB hso.go (by omega)
      have apart4 : ∀ q ∈ S4, q ∉ S2 := fun q h1 h2 => by
        rcases T4.gr q h1 with e | e
        · exact apart q e h2
        · have := D3.lt q h2; omega
      have C5 := C4.keep (T5.keep fun q hq => ⟨C4.lt q hq, apart4 q hq⟩)
      have C6 := C5.keep (T6.keep fun q hq => ⟨C5.lt q hq, fun e => by
        rcases T5.gr q e with e | e
        · exact apart4 q hq e
        · have := C4.lt q hq; omega⟩)
      have e0 : now + a + b = now + (a + b) := by omega
      rw [e0] at RB D6
      obtain ⟨g1, g2⟩ := goT_comp (n1 := now + a) (n2 := now + (a + b)) (by unfold badN at hab; omega) (ts := ts)
      have hl6 := goT_len (now := now + (a + b)) (ts := ts)
      rw [← g2] at D6
      have QA := r_All C6 hso.go (by omega)
      have QB := r_All D6 hso.go (by omega)
      have NA := r_Now C6
      have NB := r_Now D6
      have RS : ∀ H, Runs Try.prog pol 17 [.val (slV tmV (some (goT (now + (a + b)) ts).2)), .val (slV tmV (some (goT (now + (a + b)) ts).2))] H ([.val (.bool true)], [], H) := fun H => r_Same _ _ rfl (by show (goT (now + (a + b)) ts).2.length ≤ _; omega) H
      refine ⟨H6, ?_⟩
      rw [g1] at RG hl6
      generalize (goT (now + a) ts).1 = y at *
      generalize (goT (now + (a + b)) (goT (now + a) ts).2).1 = z at *
      have hlyz : y.length + z.length ≤ 1000 := by rw [List.length_append] at hl6; omega
      have I : ∀ s1 s2 : Sl Int, s1.list = y ++ z → s2.list = y ++ z → ∀ H, Runs Try.prog pol 16 [.val (slV iv s1), .val (slV iv s2)] H ([.val (.bool true)], [], H) := fun s1 s2 q1 q2 H => r_Ints s1 s2 (q1.trans q2.symm) (by unfold Sl.ok; rw [q1, List.length_append]; omega) H
      rcases goR_cases y with ⟨hy, hry⟩ | ⟨a1, r1, hy, hry⟩
      · subst hy
        rw [hry] at RA
        rcases goR_cases z with ⟨hz, hrz⟩ | ⟨a2, r2, hz, hrz⟩
        · subst hz
          rw [hrz] at RB
          rw [show goR ([] ++ []) = .val .nils from rfl] at RG
          have J := I none none rfl rfl
          refine Runs.toldH (fn := Try.f5) (n := 124) [(0, .val (slV acV s)), (1, .val (iv a)), (2, .val (iv b))] [(0, .gone 0), (1, .gone 0), (2, .gone 0)] rfl Try.func5 rfl rfl (by kernel_rfl) rfl (by repeat' constructor) (by repeat' constructor) ?_
          repeat' (first
            | intro _
            | refine Ws ?_
            | (refine Wt ?_ ?_ <;> intro _ <;> try (exfalso; omega))
            | (refine Wu ?_ ?_ <;> intro _)
            | refine Wo.callI R1 ?_
            | refine Wo.callI R2 ?_
            | refine Wo.callI R3 ?_
            | refine Wo.callI RG ?_
            | refine Wo.callI RA ?_
            | refine Wo.callI RB ?_
            | refine Wo.appNs (enc := iv) (s := none) (hr := Nat.zero_le _) (fun _ h => absurd rfl h) (fun _ => ?_)
            | refine Wo.callGV J ?_
            | refine Wo.callI QA ?_
            | refine Wo.callI QB ?_
            | refine Wo.callGV RS ?_
            | refine Wo.callI NA ?_
            | refine Wo.callI NB ?_
            | refine Wl.retH rfl rfl
            | refine Wv ?_
            | refine Wz ?_
            | fail)
          all_goals first
            | rfl
            | (exfalso; omega)
            | trace_state
        · rw [hrz] at RB
          have hln : (Sl.list (some z)).length = z.length := rfl
          rw [show goR ([] ++ z) = .own (z.map iv) 1 from hrz] at RG
          have J := I (some z) (some z) rfl rfl
          refine Runs.toldH (fn := Try.f5) (n := 124) [(0, .val (slV acV s)), (1, .val (iv a)), (2, .val (iv b))] [(0, .gone 0), (1, .gone 0), (2, .gone 0)] rfl Try.func5 rfl rfl (by kernel_rfl) rfl (by repeat' constructor) (by repeat' constructor) ?_
          repeat' (first
            | intro _
            | refine Ws ?_
            | (refine Wt ?_ ?_ <;> intro _ <;> try (exfalso; omega))
            | (refine Wu ?_ ?_ <;> intro _)
            | refine Wo.callI R1 ?_
            | refine Wo.callI R2 ?_
            | refine Wo.callI R3 ?_
            | refine Wo.callIO RG (fun _ => ?_)
            | refine Wo.callI RA ?_
            | refine Wo.callIO RB (fun _ => ?_)
            | refine Wo.appNs (enc := iv) (s := some z) (fun _ _ => ?_) (fun h => absurd (hz.symm.trans h) (by simp))
            | refine Wo.callGV J ?_
            | refine Wo.callI QA ?_
            | refine Wo.callI QB ?_
            | refine Wo.callGV RS ?_
            | refine Wo.callI NA ?_
            | refine Wo.callI NB ?_
            | refine Wl.retH rfl rfl
            | refine Wv ?_
            | refine Wz ?_
            | fail)
          all_goals first
            | rfl
            | (exfalso; omega)
            | trace_state
      · rw [hry] at RA
        have hrg : goR (y ++ z) = .own ((y ++ z).map iv) 1 := by rw [hy]; rfl
        rw [hrg] at RG
        have hml : (y.map iv).length = y.length := List.length_map _
        rcases goR_cases z with ⟨hz, hrz⟩ | ⟨a2, r2, hz, hrz⟩
        · subst hz
          rw [hrz] at RB
          have hln : (Sl.list (none : Sl Int)).length = 0 := rfl
          have J := I (some (y ++ [])) (some (y.take (y.map iv).length ++ Sl.list none)) rfl (by rw [List.length_map, List.take_length]; rfl)
          refine Runs.toldH (fn := Try.f5) (n := 124) [(0, .val (slV acV s)), (1, .val (iv a)), (2, .val (iv b))] [(0, .gone 0), (1, .gone 0), (2, .gone 0)] rfl Try.func5 rfl rfl (by kernel_rfl) rfl (by repeat' constructor) (by repeat' constructor) ?_
          repeat' (first
            | intro _
            | refine Ws ?_
            | (refine Wt ?_ ?_ <;> intro _ <;> try (exfalso; omega))
            | (refine Wu ?_ ?_ <;> intro _)
            | refine Wo.callI R1 ?_
            | refine Wo.callI R2 ?_
            | refine Wo.callI R3 ?_
            | refine Wo.callIO RG (fun _ => ?_)
            | refine Wo.callIO RA (fun _ => ?_)
            | refine Wo.callI RB ?_
            | refine Wo.appS (enc := iv) (la := y) (s := none) (fun _ => ?_)
            | refine Wo.callGV J ?_
            | refine Wo.callI QA ?_
            | refine Wo.callI QB ?_
            | refine Wo.callGV RS ?_
            | refine Wo.callI NA ?_
            | refine Wo.callI NB ?_
            | refine Wl.retH rfl rfl
            | refine Wv ?_
            | refine Wz ?_
            | fail)
          all_goals first
            | rfl
            | (exfalso; omega)
            | trace_state
        · rw [hrz] at RB
          have hln : (Sl.list (some z)).length = z.length := rfl
          have J := I (some (y ++ z)) (some (y.take (y.map iv).length ++ Sl.list (some z))) rfl (by rw [List.length_map, List.take_length]; rfl)
          refine Runs.toldH (fn := Try.f5) (n := 124) [(0, .val (slV acV s)), (1, .val (iv a)), (2, .val (iv b))] [(0, .gone 0), (1, .gone 0), (2, .gone 0)] rfl Try.func5 rfl rfl (by kernel_rfl) rfl (by repeat' constructor) (by repeat' constructor) ?_
          repeat' (first
            | intro _
            | refine Ws ?_
            | (refine Wt ?_ ?_ <;> intro _ <;> try (exfalso; omega))
            | (refine Wu ?_ ?_ <;> intro _)
            | refine Wo.callI R1 ?_
            | refine Wo.callI R2 ?_
            | refine Wo.callI R3 ?_
            | refine Wo.callIO RG (fun _ => ?_)
            | refine Wo.callIO RA (fun _ => ?_)
            | refine Wo.callIO RB (fun _ => ?_)
            | refine Wo.appS (enc := iv) (la := y) (s := some z) (fun _ => ?_)
            | refine Wo.callGV J ?_
            | refine Wo.callI QA ?_
            | refine Wo.callI QB ?_
            | refine Wo.callGV RS ?_
            | refine Wo.callI NA ?_
            | refine Wo.callI NB ?_
            | refine Wl.retH rfl rfl
            | refine Wv ?_
            | refine Wz ?_
            | fail)
          all_goals first
            | rfl
            | (exfalso; omega)
            | trace_state
end Go.Vi.CYtmcojibgjibkdaa
