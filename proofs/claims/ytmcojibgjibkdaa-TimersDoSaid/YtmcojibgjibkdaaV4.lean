/-
  Arrays that are variables: one cell after the other; parts of them handed over to be read.
-/
import Derived.Test.YtmcojibgjibkdaaV3
namespace Go.Vi
set_option linter.unusedVariables false
set_option linter.unusedSimpArgs false

section
variable {P : Program} {pol : Pol} {f : FuncId} {ops : Array Oper} {Q : PostV} {K : Fr → Hp → Prop} {n : Nat} {x : Nat → SV} {u : List (Nat × SV)} {y : Nat → TC} {w w' : List (Nat × TC)} {H : Hp} {l : List Oper} {dst : Option Tmp} {d : Tmp} {ty : TypeId} {pos : String} {after : Array Edge} {g : Option (Nat × Bool)} {v v' : SV}
variable {t e : TypeId} {p q i : Operand} {o g' off m sz len : Nat} {k k' : IntKind} {j j' : Int} {α : Type} {enc : α → VV} {la : List α} {a : α} {wr : Bool}

/-- the address of an element of an array, of one cell each -/
theorem Wo.idxB (h : WX P pol f ops l K n x ((d, .loc o g' (off + j.toNat)) :: u) y w H) (hx : evX n x u p = some (.loc o g' off) := by rfl) (hi : evX n x u i = some (.val (.int k j)) := by rfl) (ht : P.underlying t = some (.array len e) := by rfl) (hs : sizeT P e = some 1 := by rfl) (hb : 0 ≤ j ∧ j < len := by constructor <;> omega)
    (hw : openX ops g n x u = true := by rfl) : WX P pol f ops (⟨some d, .indexAddr t p i, ty, pos, after, g⟩ :: l) K n x u y w H :=
  WX.told (stepV_idx hx hi (by simp only [indexAddrV, intOfV, ht, hs, hb, and_self, if_true, Option.bind_eq_bind, Option.bind_some, Nat.mul_one])) h hw
/-- a cell of a variable whose cells are values of a kind -/
theorem Wo.loadB (h : ∀ a, la[off]? = some a → WX P pol f ops l K n x ((d, .val (enc a)) :: u) y w H) (hx : evX n x u p = some (.loc o g' off) := by rfl) (hb : tgX n y w o = .box g' (la.map fun a => .val (enc a)) wr := by rfl) (hag : isAggT P t = some false := by rfl) (hsz : sizeT P t = some 1 := by rfl) (hl : off < la.length := by omega)
    (hw : openX ops g n x u = true := by rfl) : WX P pol f ops (⟨some d, .load t p, ty, pos, after, g⟩ :: l) K n x u y w H := by
  refine WX.told (fun call => ?_) (h _ (List.getElem?_eq_getElem hl)) hw
  simp only [stepV, hx, tget_mk, hb, if_true, ldS, hag, hsz, List.getElem?_map, List.getElem?_eq_getElem hl, Option.map_some]
theorem Wo.storeB (h : WX P pol f ops l K n x u y ((o, .box g' ((la.set off a).map fun a => .val (enc a)) true) :: w) H) (hx : evX n x u p = some (.loc o g' off) := by rfl) (hb : tgX n y w o = .box g' (la.map fun a => .val (enc a)) true := by rfl) (hy : evX n x u q = some (.val (enc a)) := by rfl) (hl : off < la.length := by omega) (hs : sizeT P t = some 1 := by rfl)
    (hc : ∀ a, svCells (.val (enc a)) = [.val (enc a)] ∧ oneCell (.val (enc a)) = true := by intro _; exact ⟨rfl, rfl⟩) (hw : openX ops g n x u = true := by rfl) : WX P pol f ops (⟨none, .store t p q, ty, pos, after, g⟩ :: l) K n x u y w H := by
  refine WX.mute (v := .val .undef) (fun call => ?_) h hw
  have h1 := hc a
  have hle : off + 1 ≤ la.length := by omega
  simp only [stepV, hx, hy, tget_mk, hb, h1.1, List.length_singleton, hs, List.all_cons, List.all_nil, h1.2, Bool.and_self, List.length_map, hle, and_self, if_true, putCells, mk_set, List.map_set]
/-- a part of an array, of one cell each -/
theorem Wo.cutB {lo hi : Operand} (h : WX P pol f ops l K n x ((d, .lsl o g' (off + j.toNat) (j'.toNat - j.toNat) 1 false) :: u) y w H) (hx : evX n x u p = some (.loc o g' off) := by rfl) (hi1 : evX n x u lo = some (.val (.int k j)) := by rfl) (hi2 : evX n x u hi = some (.val (.int k' j')) := by rfl) (ht : P.underlying t = some (.array len e) := by rfl) (hs : sizeT P e = some 1 := by rfl) (hag : isAggT P e = some false := by rfl)
    (hb : (0 ≤ j' ∧ j' ≤ len) ∧ (0 ≤ j ∧ j ≤ j') := by omega) (hw : openX ops g n x u = true := by rfl) : WX P pol f ops (⟨some d, .slice t p (some lo) (some hi) none, ty, pos, after, g⟩ :: l) K n x u y w H := by
  refine WX.told (fun call => ?_) h hw
  simp only [stepV, pureV, hx, opt, hi1, hi2, Option.bind_eq_bind, Option.bind_some, Option.map_some, sliceV, ht, hs, hag, cut_both hb.1 hb.2, Nat.mul_one]

/-- a part of a variable that is handed over to be read -/
theorem out_lsl (hb : tgX n y w o = .box g' (la.map fun a => .val (enc a)) wr) (hl : off + m ≤ la.length) (h1 : ∀ a, (enc a).one = true) :
    outT (lay n y w) (.lsl o g' off m 1 false) = some (.lst (((la.drop off).take m).map enc), lay n y ((o, .box g' (la.map fun a => .val (enc a)) false) :: w)) := by
  have e : ((((la.map fun a => SV.val (enc a)).drop off).take (m * 1)).mapM out) = some (((la.drop off).take m).map enc) := by
    rw [Nat.mul_one, ← List.map_drop, ← List.map_take]
    generalize (la.drop off).take m = L
    induction L with
    | nil => rfl
    | cons a r ih => rw [List.map_cons, List.mapM_cons, ih]; rfl
  have hle : off + m * 1 ≤ (la.map fun a => SV.val (enc a)).length := by rw [List.length_map]; omega
  have hall : (((la.drop off).take m).map enc).all VV.one = true := List.all_eq_true.2 fun x hx => by
    obtain ⟨a, _, rfl⟩ := List.mem_map.1 hx
    exact h1 a
  have h := (by simp only [outT1, tget_mk, hb, hle, Nat.zero_lt_one, and_self, if_true, e, Bool.false_eq_true, if_false, true_and, hall, mk_set] : outT1 (lay n y w) (.lsl o g' off m 1 false) = some (.lst (((la.drop off).take m).map enc), lay n y ((o, .box g' (la.map fun a => .val (enc a)) false) :: w)))
  exact h

/-- a call of a number and a part of an array; what it tells is flat -/
theorem Wo.callL {c : Call} {fid : FuncId} {u0 : VV} {r : List RV} (hR : ∀ H, Runs P pol fid [.val u0, .val (.lst (((la.drop off).take m).map enc))] H (r, [], H)) (h : WX P pol f ops l K n x ((d, v) :: u) y w H) {fo : Operand} (hcal : c.callee = .value fo := by rfl) (hf : evX n x u fo = some (.val (.func fid [] [])) := by rfl)
    (ha : (c.args.toList.map (evX n x u)).mapM id = some [.val u0, .lsl o g' off m 1 false] := by rfl) (hb : tgX n y w o = .box g' (la.map fun a => .val (enc a)) wr := by rfl) (hl : off + m ≤ la.length := by omega) (h1 : ∀ a, (enc a).one = true := by intro _; rfl) (hfl : r.all flatR = true := by rfl) (hv : ∀ tab, ofRV tab (d :: pol.keys f d) r = some (v, tab) := by intro _; rfl)
    (hm : ∀ i, pol.mode fid i = 0 := by intro _; rfl) (hp : pol.pure fid = true := by rfl) (hw : openX ops g n x u = true := by rfl) : WX P pol f ops (⟨some d, .call c, ty, pos, after, g⟩ :: l) K n x u y w H := by
  obtain ⟨kk, hk⟩ := hR (Hp.bare H.next)
  have ho : outArgs (pol.mode fid) (lay n y w) 0 [.val u0, .lsl o g' off m 1 false] = some ([.val u0, .val (.lst (((la.drop off).take m).map enc))], lay n y ((o, .box g' (la.map fun a => .val (enc a)) false) :: w), []) := by
    have h0 : outT (lay n y w) (.val u0) = some (u0, lay n y w) := rfl
    simp only [outArgs, hm, outArg_zero, h0, out_lsl hb hl h1, Option.map_some, List.nil_append, List.append_nil]
  exact WX.called ⟨kk, fun call e => by
    subst e
    exact stepV_call (dst := some d) (first := []) (cap := []) (back := []) (lent := []) (by simpa using hk) hcal hf ha ho rfl hp (by
      simp only [hfl, List.all_nil, Bool.and_self, keeps_zero hm, if_true]; rfl) (hv _)⟩ hw h
end
end Go.Vi

/-
  More of whole numbers: the sign, quotients, the greater and the smaller one.
-/
namespace Go.Vi
set_option linter.unusedVariables false
set_option linter.unusedSimpArgs false

def mxI (a b : Int) : Int := if b > a then b else a
def mnI (a b : Int) : Int := if b < a then b else a

section
variable {P : Program} {pol : Pol} {f : FuncId} {ops : Array Oper} {Q : PostV} {K : Fr → Hp → Prop} {n : Nat} {x : Nat → SV} {u : List (Nat × SV)} {y : Nat → TC} {w : List (Nat × TC)} {H : Hp} {l : List Oper} {d : Tmp} {ty : TypeId} {pos : String} {after : Array Edge} {g : Option (Nat × Bool)}
variable {t ut : TypeId} {p q : Operand} {a b : Int}
theorem Wo.neg {o : UnOp} (h : WX P pol f ops l K n x ((d, .val (.int .i64 (0 - a))) :: u) y w H) (ho : o = .neg := by rfl) (hx : evX n x u p = some (.val (.int .i64 a)) := by rfl) (hb : -9223372036854775808 ≤ 0 - a ∧ 0 - a ≤ 9223372036854775807 := by constructor <;> omega)
    (hw : openX ops g n x u = true := by rfl) : WX P pol f ops (⟨some d, .unOp o t p, ty, pos, after, g⟩ :: l) K n x u y w H := by
  subst ho
  exact WX.told (fun call => by simp only [stepV, pureV, hx, out, unV, wrap64 hb, Option.bind_eq_bind, Option.bind_some, Option.map_some]) h hw
theorem Wo.max {c : Call} (h : WX P pol f ops l K n x ((d, .val (.int .i64 (mxI a b))) :: u) y w H) (hc : c.callee = .builtin .max := by rfl) (ha : c.args.toList = [p, q] := by rfl) (hx : evX n x u p = some (.val (.int .i64 a)) := by rfl) (hy : evX n x u q = some (.val (.int .i64 b)) := by rfl)
    (hw : openX ops g n x u = true := by rfl) : WX P pol f ops (⟨some d, .call c, ty, pos, after, g⟩ :: l) K n x u y w H := by
  obtain ⟨ce, ar, at'⟩ := c
  simp only at hc ha
  subst hc
  refine WX.told (fun call => ?_) h hw
  show (pureV P (evX n x u) (.call ⟨.builtin .max, ar, at'⟩)).map _ = _
  simp only [pureV, ha, List.mapM_cons, List.mapM_nil, hx, hy, out, Option.bind_eq_bind, Option.bind_some, Option.pure_def, foldV, List.foldlM_cons, List.foldlM_nil, maxV, Option.map_some, mxI]
theorem Wo.min {c : Call} (h : WX P pol f ops l K n x ((d, .val (.int .i64 (mnI a b))) :: u) y w H) (hc : c.callee = .builtin .min := by rfl) (ha : c.args.toList = [p, q] := by rfl) (hx : evX n x u p = some (.val (.int .i64 a)) := by rfl) (hy : evX n x u q = some (.val (.int .i64 b)) := by rfl)
    (hw : openX ops g n x u = true := by rfl) : WX P pol f ops (⟨some d, .call c, ty, pos, after, g⟩ :: l) K n x u y w H := by
  obtain ⟨ce, ar, at'⟩ := c
  simp only at hc ha
  subst hc
  refine WX.told (fun call => ?_) h hw
  show (pureV P (evX n x u) (.call ⟨.builtin .min, ar, at'⟩)).map _ = _
  simp only [pureV, ha, List.mapM_cons, List.mapM_nil, hx, hy, out, Option.bind_eq_bind, Option.bind_some, Option.pure_def, foldV, List.foldlM_cons, List.foldlM_nil, minV, Option.map_some, mnI]
theorem Wo.quo (h : WX P pol f ops l K n x ((d, .val (.int .i64 (a.tdiv b))) :: u) y w H) (hx : evX n x u p = some (.val (.int .i64 a)) := by rfl) (hy : evX n x u q = some (.val (.int .i64 b)) := by rfl) (h0 : ¬ b = 0 := by omega) (hb : -9223372036854775808 ≤ a.tdiv b ∧ a.tdiv b ≤ 9223372036854775807)
    (hw : openX ops g n x u = true := by rfl) : WX P pol f ops (⟨some d, .binOp .quo t p q ut, ty, pos, after, g⟩ :: l) K n x u y w H :=
  WX.told (stepV_bin hx hy (by simp only [binV, if_true, intBin, h0, if_false, wrap64 hb])) h hw
theorem Wo.rem (h : WX P pol f ops l K n x ((d, .val (.int .i64 (a.tmod b))) :: u) y w H) (hx : evX n x u p = some (.val (.int .i64 a)) := by rfl) (hy : evX n x u q = some (.val (.int .i64 b)) := by rfl) (h0 : ¬ b = 0 := by omega)
    (hw : openX ops g n x u = true := by rfl) : WX P pol f ops (⟨some d, .binOp .rem t p q ut, ty, pos, after, g⟩ :: l) K n x u y w H :=
  WX.told (stepV_bin hx hy (by simp only [binV, if_true, intBin, h0, if_false])) h hw
/-- a method with its receiver: a function over values alone -/
theorem Wo.bind {fn : FuncId} {o : Operand} {v : VV} (h : WX P pol f ops l K n x ((d, .val (.func fn [v] [])) :: u) y w H) (hx : evX n x u o = some (.val v) := by rfl) (hw : openX ops g n x u = true := by rfl) : WX P pol f ops (⟨some d, .makeFunc (.func fn) #[o] #[], ty, pos, after, g⟩ :: l) K n x u y w H := by
  refine WX.told (fun call => ?_) h hw
  have h0 : outT (lay n y w) (.val v) = some (v, lay n y w) := rfl
  simp only [stepV, List.mapM_nil, List.mapM_cons, hx, Option.pure_def, Option.bind_eq_bind, Option.bind_some, outAll, h0]
end
end Go.Vi

/-
  Structs with own rows: built, handed over, handed back; results and slots that are frozen; variables that are lent.
-/
namespace Go.Vi
set_option linter.unusedVariables false
set_option linter.unusedSimpArgs false

section
variable {P : Program} {pol : Pol} {f : FuncId} {ops : Array Oper} {Q : PostV} {K : Fr → Hp → Prop} {n : Nat} {x : Nat → SV} {u : List (Nat × SV)} {y : Nat → TC} {w w' : List (Nat × TC)} {H : Hp} {l : List Oper} {d : Tmp} {ty : TypeId} {pos : String} {after : Array Edge} {g : Option (Nat × Bool)}
variable {t e : TypeId} {cs : List SV} {o g' sz : Nat} {p q : Operand}
theorem Wo.buildSt {parts : Array (Nat × Operand)} {z : VV} {fs : List Field} {ps : List (Nat × SV)} {qs : List (Nat × Nat × SV)} {zs : List SV} (h : WX P pol f ops l K n x ((d, .st cs) :: u) y w H) (hz : zeroT P t = some z := by rfl) (hf : fieldsOf P t = some fs := by rfl) (hp : partsOf (evX n x u) parts.toList = some ps := by rfl)
    (hq : placesOf P fs ps = some qs := by rfl) (hzs : z.cells.map .val = zs := by (try dsimp only [VV.cells, List.map, List.reverse, List.reverseAux]) <;> rfl) (hc : fillS zs qs = some cs := by rfl) (ha : (fs.all fun f => (sizeT P f.type).isSome) = true := by rfl) (hv : stOf cs = .st cs := by rfl) (hw : openX ops g n x u = true := by rfl) : WX P pol f ops (⟨some d, .build t parts, ty, pos, after, g⟩ :: l) K n x u y w H := by
  subst hzs
  exact WX.told (fun call => by simp only [stepV, hz, hf, hp, hq, hc, ha, if_true, hv]) h hw
theorem Wo.buildFl {parts : Array (Nat × Operand)} {z : VV} {fs : List Field} {ps : List (Nat × SV)} {qs : List (Nat × Nat × SV)} {zs : List SV} {vs : List VV} (h : WX P pol f ops l K n x ((d, .val (.agg vs)) :: u) y w H) (hz : zeroT P t = some z := by rfl) (hf : fieldsOf P t = some fs := by rfl) (hp : partsOf (evX n x u) parts.toList = some ps := by rfl)
    (hq : placesOf P fs ps = some qs := by rfl) (hzs : z.cells.map .val = zs := by (try dsimp only [VV.cells, List.map, List.reverse, List.reverseAux]) <;> rfl) (hc : fillS zs qs = some cs := by rfl) (ha : (fs.all fun f => (sizeT P f.type).isSome) = true := by rfl) (hv : stOf cs = .val (.agg vs) := by rfl) (hw : openX ops g n x u = true := by rfl) : WX P pol f ops (⟨some d, .build t parts, ty, pos, after, g⟩ :: l) K n x u y w H := by
  subst hzs
  exact WX.told (fun call => by simp only [stepV, hz, hf, hp, hq, hc, ha, if_true, hv]) h hw

theorem ArgsX.all : ∀ {w w' : List (Nat × TC)} {l : List SV} {us : List VV}, ArgsX n y w l us w' → outAll (lay n y w) l = some (us, lay n y w')
  | _, _, _, _, .nil => rfl
  | _, _, _, _, .one h hr => by simp only [outAll, h.told.2, hr.all]
  | _, _, _, _, .st h hr => by simp only [outAll, outT, h.told, Option.map_some, hr.all]

/-- a row of one element that is a struct with own rows -/
theorem Wo.rowSt {parts : Array (Nat × Operand)} {z : VV} {i : Nat} {us es' : List VV} (h : ∀ g', WX P pol f ops l K n x ((d, .own d g' 0 1 sz) :: u) y ((d, .row g' es' sz false) :: w') H) (he : elemOfSlice P t = some e := by rfl) (hp : partsOf (evX n x u) parts.toList = some [(i, .st cs)] := by rfl)
    (hs : sizeT P e = some sz := by rfl) (hz : zeroT P e = some z := by rfl) (ho : OutsX n y w cs us w' := by repeat' (first | exact OutsX.nil | apply OutsX.cons | exact OutX.val | exact OutX.full | apply OutX.own | rfl | (simp; done) | (simp; omega))) (hc : (Nat.blt 0 sz && Nat.ble (1 * sz) 16777216 && Nat.beq z.cells.length sz && Nat.blt d n) = true := by rfl)
    (hf : fillE (List.replicate 1 z) sz [(i, .agg us)] = some es' := by rfl) (hw : openX ops g n x u = true := by rfl) :
    WX P pol f ops (⟨some d, .buildSlice t 1 parts, ty, pos, after, g⟩ :: l) K n x u y w H := by
  simp only [Bool.and_eq_true] at hc
  obtain ⟨⟨⟨c1, c2⟩, c3⟩, c5⟩ := hc
  have c1 := blt_lt c1; have c2 := Nat.le_of_ble_eq_true c2; have c3 := Nat.eq_of_beq_eq_true c3; have c5 := blt_lt c5
  have cc : ¬ (sz = 0 ∨ 1 * sz > 16777216 ∨ z.cells.length ≠ sz) := by omega
  have c6 : ¬ (1 : Nat) = 0 := by omega
  have hoo : outAll (lay n y w) [.st cs] = some ([.agg us], lay n y w') := (ArgsX.st ho .nil).all
  exact WX.told (fun call => by simp only [stepV, he, hp, hs, hz, List.map_cons, List.map_nil, hoo, List.zip_cons_cons, List.zip_nil_left, cc, hf, c6, mk_length, c5, if_true, if_false, mk_set]) (h ((tget (lay n y w') d).gen + 1)) hw
/-- a whole slice of a kind, to an empty row (a copy), however long -/
theorem Wo.appG {α : Type} {enc : α → VV} {s : Sl α} {c : Call} {ti : TypeInfo} {by8 : Nat} (h : ∀ g2, s.list ≠ [] → WX P pol f ops l K n x ((d, .own d g2 0 s.list.length sz) :: u) y ((d, .row g2 (s.list.map enc) sz false) :: w) H) (h' : s.list = [] → WX P pol f ops l K n x ((d, .full []) :: u) y w H)
    (hr : s.list.length * by8 ≤ 140737488355328 ∧ s.list.length ≤ 70368744177664)
    (hc : c.callee = .builtin .append := by rfl) (ha : c.args.toList = [p, q] := by rfl) (hct : c.argTypes.toList = [t, t] := by rfl) (hx : evX n x u p = some (.full []) := by rfl)
    (hy : evX n x u q = some (.val (slV enc s)) := by rfl) (he : elemOfSlice P t = some e := by rfl) (hs : sizeT P e = some sz := by rfl) (hi' : P.info? e = some ti := by rfl) (hzz : zeroOk P e sz = true := by rfl)
    (hb8 : ti.bytes = by8 := by rfl) (hk : (Nat.blt d n && Nat.blt 0 sz) = true := by rfl) (hnew : ∀ a, okElem sz (enc a) = true := by intro _; rfl) (hw : openX ops g n x u = true := by rfl) :
    WX P pol f ops (⟨some d, .call c, ty, pos, after, g⟩ :: l) K n x u y w H := by
  obtain ⟨ce, ar, at'⟩ := c
  simp only at hc ha hct
  subst hc
  subst hb8
  simp only [Bool.and_eq_true] at hk
  obtain ⟨c1, c3⟩ := hk
  have c1 := blt_lt c1; have c3 := blt_lt c3
  have hrr : roomOk s.list.length ti.bytes = true := by
    simp only [roomOk, Bool.and_eq_true, decide_eq_true_eq]; omega
  have hn : (s.list.map enc).all (okElem sz) = true := by simp [hnew]
  by_cases hne : s.list = []
  · exact WX.told (fun call => by simp only [stepV, ha, hct, if_true, appendV, hx, hy, he, hs, hi', added_sl, mk_length, c1, c3, hn, hzz, and_self, List.all_nil, hne, List.map_nil, List.isEmpty_nil]) (h' hne) hw
  · have : (s.list.map enc).isEmpty = false := by
      cases hl : s.list with
      | nil => exact absurd hl hne
      | cons _ _ => rfl
    exact WX.told (fun call => by simp only [stepV, ha, hct, if_true, appendV, hx, hy, he, hs, hi', added_sl, mk_length, c1, c3, hn, hzz, and_self, List.all_nil, this, Bool.false_eq_true, if_false, List.length_nil, Nat.zero_add, List.length_map, hrr, List.nil_append, mk_set]) (h ((tget (lay n y w) d).gen + 1) hne) hw

/-- a call that lends a variable, and hands a value over -/
theorem Wo.lend {c : Call} {fid : FuncId} {v0 v1 : VV} {bo bg : Nat} {vs vs' : List VV} (hR : ∀ H, Runs P pol fid [.box vs 0, .val v0] H ([.val v1], [.box vs' 0], H)) (h : WX P pol f ops l K n x ((d, .val v1) :: u) y ((bo, .box bg (vs'.map .val) true) :: w) H) {fo : Operand} (hcal : c.callee = .value fo := by rfl) (hf : evX n x u fo = some (.val (.func fid [] [])) := by rfl)
    (ha : (c.args.toList.map (evX n x u)).mapM id = some [.loc bo bg 0, .val v0] := by rfl) (hb : tgX n y w bo = .box bg (vs.map .val) true := by rfl) (hl : Nat.beq vs'.length vs.length = true := by rfl) (hm0 : pol.mode fid 0 = 2 := by rfl) (hm1 : pol.mode fid 1 = 0 := by rfl) (hp : pol.pure fid = true := by rfl)
    (hw : openX ops g n x u = true := by rfl) : WX P pol f ops (⟨some d, .call c, ty, pos, after, g⟩ :: l) K n x u y w H := by
  obtain ⟨kk, hk⟩ := hR (Hp.bare H.next)
  have ho1 : ∀ (vs : List VV), outAll (lay n y w) (vs.map .val) = some (vs, lay n y w) := fun vs => outAll_plain (by
    induction vs with
    | nil => rfl
    | cons a r ih => rw [List.map_cons, List.mapM_cons, ih]; rfl)
  have ho : outArgs (pol.mode fid) (lay n y w) 0 [.loc bo bg 0, .val v0] = some ([.box vs 0, .val v0], lay n y w, [.box bo bg]) := by
    have h0 : outT (lay n y w) (.val v0) = some (v0, lay n y w) := rfl
    have h2 : outArg 2 (lay n y w) (.loc bo bg 0) = some (.box vs 0, lay n y w, [.box bo bg]) := by
      simp only [outArg, tget_mk, hb, if_true, ho1]
    simp only [outArgs, hm0, hm1, outArg_zero, h0, h2, Option.map_some, List.append_nil]
  have hll := Nat.eq_of_beq_eq_true hl
  have hbk : backV (lay n y w) [.box bo bg] [.box vs' 0] = some (lay n y ((bo, .box bg (vs'.map .val) true) :: w)) := by
    simp only [backV, tget_mk, hb, List.length_map, hll, and_self, if_true, mk_set]
  exact WX.called ⟨kk, fun call e => by
    subst e
    exact stepV_call (dst := some d) (first := []) (cap := []) (by simpa using hk) hcal hf ha ho (by simp only [List.all_cons, List.all_nil, stillOwn, tget_mk, hb, beq_self_eq_true, Bool.and_true, List.map_cons, List.map_nil, nodupN, List.contains_nil, Bool.not_false]) hp (by
      rw [ite_self]; exact hbk) (by rfl)⟩ hw h
end

section
variable {P : Program} {pol : Pol} {f : FuncId} {ops : Array Oper} {Q : PostV} {n : Nat} {x : Nat → SV} {u u' : List (Nat × SV)} {y : Nat → TC} {w w' : List (Nat × TC)} {H : Hp} {l : List Oper} {id : Nat} {draws : Bool} {zs : List Nat}
/-- cells of a struct that leaves -/
inductive CellX (n : Nat) (y : Nat → TC) : List (Nat × TC) → List SV → List RV → List (Nat × TC) → Prop
  | nil {w : List (Nat × TC)} : CellX n y w [] [] w
  | val {w w' : List (Nat × TC)} {v : VV} {l : List SV} {r : List RV} (h : CellX n y w l r w') : CellX n y w (.val v :: l) (.val v :: r) w'
  | full {w w' : List (Nat × TC)} {es : List VV} {l : List SV} {r : List RV} (h : CellX n y w l r w') : CellX n y w (.full es :: l) (.full es :: r) w'
  | own {w w' : List (Nat × TC)} {d g m sz : Nat} {es : List VV} {l : List SV} {r : List RV} (hb : tgX n y w d = .row g es sz false) (hm : m = es.length) (h : CellX n y ((d, .gone g) :: w) l r w') : CellX n y w (.own d g 0 m sz :: l) (.own es sz :: r) w'
/-- results that nobody writes any more -/
theorem Wl.retF {fn : Func} {args r0 : List RV} {vs : List SV} {us : List VV} (h : us.map .val = r0) (hr : ResX P n x u y w fn.results.toList vs := by repeat' (first | exact ResX.nil | apply ResX.tmp | apply ResX.cell | rfl))
    (ho : ArgsX n y w vs us w' := by repeat' (first | exact ArgsX.nil | exact OutsX.nil | apply ArgsX.st | apply ArgsX.one | apply OutsX.cons | exact OutX.val | exact OutX.full | apply OutX.own | rfl | (simp; done) | (simp; omega)))
    (hm : args.all (fun a => !isOwned a) = true := by rfl) (hz : pol.frz f = true := by rfl) : QX (Left P pol f fn args (Ans r0 [] H)) .ret n x u y w H := by
  refine ⟨.inr rfl, us.map .val, lay n y w', [], lay n y w', ?_, (backs_plain hm).1, (backs_plain hm).2, h, rfl, rfl⟩
  unfold resultsV
  rw [hr.told, hz]
  show (outAll (lay n y w) vs).map _ = _
  rw [ho.all]; rfl
/-- plain results, and a variable that was lent goes back -/
theorem Wl.retB {fn : Func} {rest : List RV} {r r0 : List RV} {vs cs : List SV} {va ub : List VV} {off : Nat} (h : r = r0) (hr : ResX P n x u y w fn.results.toList vs := by repeat' (first | exact ResX.nil | apply ResX.tmp | apply ResX.cell | rfl)) (ho : PlainX vs r := by repeat' (first | exact PlainX.nil | apply PlainX.cons))
    (hb : tgX n y w 0 = .box 1 cs true := by rfl) (hc : ArgsX n y w cs ub w' := by repeat' (first | exact ArgsX.nil | exact OutsX.nil | apply ArgsX.st | apply ArgsX.one | apply OutsX.cons | exact OutX.val | exact OutX.full | apply OutX.own | rfl | (simp; done) | (simp; omega)))
    (hb' : tgX n y w' 0 = .box 1 cs true := by rfl) (hm0 : pol.mode f 0 = 2 := by rfl) (hm : rest.all (fun a => !isOwned a) = true := by rfl) : QX (Left P pol f fn (.box va off :: rest) (Ans r0 [.box ub off] H)) .ret n x u y w H := by
  obtain ⟨us, e, ho'⟩ := ho.told
  have hbk : backs (pol.mode f) (lay n y w) 0 (.box va off :: rest) = some ([.box ub off], lay n y w') := by
    have h1 : pol.mode f 0 = 2 ∧ isOwned (.box va off) = true := ⟨hm0, rfl⟩
    unfold backs
    rw [if_pos h1]
    simp only [tget_mk, hb, hc.all, (backs_plain hm).1, Option.map_some]
  have hlo : lentOk (pol.mode f) (lay n y w') 0 (.box va off :: rest) = true := by
    have h1 : pol.mode f 0 = 2 ∧ isOwned (.box va off) = true := ⟨hm0, rfl⟩
    unfold lentOk
    rw [if_pos h1, (backs_plain hm).2]
    simp only [tget_mk, hb', Bool.and_self]
  refine ⟨.inr rfl, us.map .val, lay n y w, [.box ub off], lay n y w', ?_, hbk, hlo, e.symm.trans h, rfl, rfl⟩
  unfold resultsV
  rw [hr.told]
  cases pol.frz f with
  | false => exact retsV_plain ho'
  | true =>
    show (outAll (lay n y w) vs).map _ = _
    rw [outAll_plain (out_of_plain ho')]; rfl

/-- slots are frozen behind a region -/
inductive FrzX (n : Nat) (x : Nat → SV) (y : Nat → TC) : List Nat → List (Nat × SV) → List (Nat × TC) → List (Nat × SV) → List (Nat × TC) → Prop
  | nil {u : List (Nat × SV)} {w : List (Nat × TC)} : FrzX n x y [] u w u w
  | val {u u' : List (Nat × SV)} {w w' : List (Nat × TC)} {t : Nat} {r : List Nat} {v : VV} (he : evX n x u (.tmp t) = some (.val v)) (hr : FrzX n x y r ((t, .val v) :: u) w u' w') : FrzX n x y (t :: r) u w u' w'
  | full {u u' : List (Nat × SV)} {w w' : List (Nat × TC)} {t : Nat} {r : List Nat} {es : List VV} (he : evX n x u (.tmp t) = some (.full es)) (hr : FrzX n x y r ((t, .val (.lst es)) :: u) w u' w') : FrzX n x y (t :: r) u w u' w'
  | own {u u' : List (Nat × SV)} {w w' : List (Nat × TC)} {t : Nat} {r : List Nat} {d g m sz : Nat} {es : List VV} {lk : Bool} (he : evX n x u (.tmp t) = some (.own d g 0 m sz)) (hb : tgX n y w d = .row g es sz lk) (hm : m = es.length)
      (hr : FrzX n x y r ((t, .val (.lst es)) :: u) ((d, .row g es sz true) :: w) u' w') : FrzX n x y (t :: r) u w u' w'
  | box {u u' : List (Nat × SV)} {w w1 w' : List (Nat × TC)} {t : Nat} {r : List Nat} {d g off : Nat} {cs cs' : List SV} {us : List VV} (he : evX n x u (.tmp t) = some (.loc d g off)) (hb : tgX n y w d = .box g cs true) (hc : ArgsX n y w cs us w1) (hb1 : tgX n y w1 d = .box g cs' true) (hl : Nat.beq cs'.length us.length = true)
      (hr : FrzX n x y r ((t, .loc d g off) :: u) ((d, .box g (us.map .val) true) :: w1) u' w') : FrzX n x y (t :: r) u w u' w'
theorem slot_mk {t : Nat} {v : SV} (h : evX n x u (.tmp t) = some v) : (lay n x u)[t]? = some v := (mk_get t).trans ((by simp only [evX, getX_eq] : _ = evX n x u (.tmp t)).trans h)
theorem frz_step {t : Nat} {r : List Nat} {v v' : SV} {w1 : List (Nat × TC)} {z : Fr} (he : evX n x u (.tmp t) = some v) (h1 : frzSlot (lay n y w) v = some (v', lay n y w1)) (hr : frzAll r ⟨lay n x ((t, v') :: u), lay n y w1⟩ = some z) : frzAll (t :: r) ⟨lay n x u, lay n y w⟩ = some z := by
  simp only [frzAll, slot_mk he, h1, mk_set]
  exact hr
theorem FrzX.told : ∀ {zs : List Nat} {u u' : List (Nat × SV)} {w w' : List (Nat × TC)}, FrzX n x y zs u w u' w' → frzAll zs ⟨lay n x u, lay n y w⟩ = some ⟨lay n x u', lay n y w'⟩
  | _, _, _, _, _, .nil => rfl
  | _, _, _, _, _, .val he hr => frz_step he rfl hr.told
  | _, _, _, _, _, .full he hr => frz_step he rfl hr.told
  | _, _, _, _, _, .own he hb hm hr => frz_step he (by simp only [frzSlot, (OutX.own hb hm).told.2, Option.map_some]) hr.told
  | _, _, _, _, _, .box he hb hc hb1 hl hr => frz_step he (by
      have hll := Nat.eq_of_beq_eq_true hl
      simp only [frzSlot, tget_mk, hb, if_true, hc.all, hb1, hll, and_self, mk_set]) hr.told
theorem Wx.plainZ (h : WX P pol f ops l (FrzK zs (Q .normal)) n x u y w H) (hl : ops.toList = l := by (try dsimp only) <;> rfl) (hz : pol.keys f (1000000 + id) = zs := by rfl) : EX P pol f (.region id ops false) Q n x u y w H := by
  subst hl; subst hz; exact ⟨WE.region_plainZ h.h⟩
def DynZ (pol : Pol) (f : FuncId) (ops : Array Oper) (zs : List Nat) (Q : PostV) : Fr → Hp → Prop := fun fr H => dynOk pol (pol.keys f) ops (ev fr.slots) (yieldedV ops fr.slots) = true ∧ FrzK zs (Q .normal) fr H
theorem Wx.dynZ (h : WX P pol f ops l (DynZ pol f ops zs Q) n x u y w H) (hl : ops.toList = l := by (try dsimp only) <;> rfl) (hs : (edgesOk ops && stable ops l) = true := by kernel_rfl) (hz : pol.keys f (1000000 + id) = zs := by rfl) : EX P pol f (.region id ops draws) Q n x u y w H := by
  subst hl; subst hz
  rw [Bool.and_eq_true] at hs
  obtain ⟨⟨fr1, H1, ⟨k, h1⟩, h2, fr2, h3, h4⟩⟩ := h
  simp only [dynOk, Bool.and_eq_true, List.all_eq_true] at h2
  refine ⟨⟨.normal, fr2, H1, ⟨k, ?_⟩, h4⟩⟩
  simp only [execV, hs.1, feet_end h1 hs.2 h2.1, h2.2, Bool.and_self, Bool.not_true, Bool.and_false, Bool.false_eq_true, if_false, h1, h3, Option.map_some]
theorem Wo.nilZ (h : QX Q .normal n x u' y w' H) (hz : FrzX n x y zs u w u' w' := by repeat' (first | exact FrzX.nil | (apply FrzX.val; (case he => rfl)) | (apply FrzX.full; (case he => rfl)) | (apply FrzX.own; (case he => rfl); (case hb => rfl)) | (apply FrzX.box; (case he => rfl); (case hb => rfl)) | exact ArgsX.nil | exact OutsX.nil | apply ArgsX.st | apply ArgsX.one | apply OutsX.cons | exact OutX.val | exact OutX.full | apply OutX.own | rfl | (simp; done) | (simp; omega))) :
    WX P pol f ops [] (FrzK zs (Q .normal)) n x u y w H := ⟨WO.nil ⟨_, hz.told, h.h⟩⟩
theorem Wo.nilDZ (h : QX Q .normal n x u' y w' H) (hp : dynOk pol (pol.keys f) ops (evX n x u) (yieldedX ops n x u) = true := by kernel_rfl) (hz : FrzX n x y zs u w u' w' := by repeat' (first | exact FrzX.nil | (apply FrzX.val; (case he => rfl)) | (apply FrzX.full; (case he => rfl)) | (apply FrzX.own; (case he => rfl); (case hb => rfl)) | (apply FrzX.box; (case he => rfl); (case hb => rfl)) | exact ArgsX.nil | exact OutsX.nil | apply ArgsX.st | apply ArgsX.one | apply OutsX.cons | exact OutX.val | exact OutX.full | apply OutX.own | rfl | (simp; done) | (simp; omega))) :
    WX P pol f ops [] (DynZ pol f ops zs Q) n x u y w H := ⟨WO.nil ⟨by rw [ev_mk, yielded_mk]; exact hp, _, hz.told, h.h⟩⟩
end
end Go.Vi

/-
  Copies; an element to an empty slice; closures over two variables.
-/
namespace Go.Vi
set_option linter.unusedVariables false
set_option linter.unusedSimpArgs false

section
variable {P : Program} {pol : Pol} {f : FuncId} {ops : Array Oper} {Q : PostV} {K : Fr → Hp → Prop} {n : Nat} {x : Nat → SV} {u : List (Nat × SV)} {y : Nat → TC} {w w' : List (Nat × TC)} {H : Hp} {l : List Oper} {d : Tmp} {ty : TypeId} {pos : String} {after : Array Edge} {g : Option (Nat × Bool)}
variable {t e : TypeId} {o o2 g' g2 sz m : Nat} {p q : Operand} {lk2 : Bool}
/-- one element, to a slice whose capacity is none -/
theorem Wo.app1f {α : Type} {enc : α → VV} {a : α} {c : Call} {ti : TypeInfo} (henc : ∀ a, okElem sz (enc a) = true) (h : ∀ g2, WX P pol f ops l K n x ((d, .own d g2 0 1 sz) :: u) y ((d, .row g2 ([a].map enc) sz false) :: w) H) (hc : c.callee = .builtin .append := by rfl) (ha : c.args.toList = [p, q] := by rfl) (hct : c.argTypes.toList = [t, t] := by rfl) (hx : evX n x u p = some (.full []) := by rfl)
    (hy : evX n x u q = some (.own o2 g2 0 1 sz) := by rfl) (hb2 : tgX n y w o2 = .row g2 [enc a] sz lk2 := by rfl) (he : elemOfSlice P t = some e := by rfl) (hs : sizeT P e = some sz := by rfl) (hi' : P.info? e = some ti := by rfl) (hzz : zeroOk P e sz = true := by rfl)
    (hk : (Nat.blt d n && Nat.blt 0 sz && Nat.ble ti.bytes 65536) = true := by rfl) (hw : openX ops g n x u = true := by rfl) : WX P pol f ops (⟨some d, .call c, ty, pos, after, g⟩ :: l) K n x u y w H := by
  obtain ⟨ce, ar, at'⟩ := c
  simp only at hc ha hct
  subst hc
  simp only [Bool.and_eq_true] at hk
  obtain ⟨⟨c1, c3⟩, c4⟩ := hk
  have c1 := blt_lt c1; have c3 := blt_lt c3; have c4 := Nat.le_of_ble_eq_true c4
  have hrr : roomOk (0 + 1) ti.bytes = true := by simp only [roomOk, Bool.and_eq_true, decide_eq_true_eq]; omega
  have hd : addedH (lay n y w) H (.own o2 g2 0 1 sz) = some [enc a] := by
    rw [added_own (off2 := 0) (m2 := 1) (tab := lay n y w) (H := H) (by rw [tget_mk]; exact hb2) (by simp)]; rfl
  exact WX.told (fun call => by simp only [stepV, ha, hct, if_true, appendV, hx, hy, he, hs, hi', hd, mk_length, c1, c3, List.all_cons, List.all_nil, henc, hzz, List.isEmpty_cons, List.length_nil, List.nil_append, List.length_singleton, Bool.and_self, and_self, Bool.false_eq_true, if_false, hrr, if_true, mk_set, List.map_cons, List.map_nil]) (h ((tget (lay n y w) d).gen + 1)) hw
/-- a row is copied whole onto another one, of one cell each -/
theorem Wo.copyA {α : Type} {enc : α → VV} {la : List α} {s : Sl α} {c : Call} (h : WX P pol f ops l K n x ((d, .val (.int .i64 (s.list.length : Nat))) :: u) y ((o, .row g' (s.list.map enc) 1 false) :: w) H) (hc : c.callee = .builtin .copy := by rfl) (ha : c.args.toList = [p, q] := by rfl) (hct : c.argTypes.toList = [t, t] := by rfl)
    (hx : evX n x u p = some (.own o g' 0 m 1) := by rfl) (hy : evX n x u q = some (.val (slV enc s)) := by rfl) (hb : tgX n y w o = .row g' (la.map enc) 1 false := by rfl) (hm : m = la.length := by first | rfl | (simp; done) | omega) (hlen : la.length = s.list.length := by first | (simp; done) | omega) (he : elemOfSlice P t = some e := by rfl) (hs : sizeT P e = some 1 := by rfl) (henc : ∀ a, okElem 1 (enc a) = true := by intro _; rfl)
    (hw : openX ops g n x u = true := by rfl) : WX P pol f ops (⟨some d, .call c, ty, pos, after, g⟩ :: l) K n x u y w H := by
  obtain ⟨ce, ar, at'⟩ := c
  simp only at hc ha hct
  subst hc; subst hm
  have hn : (s.list.map enc).all (okElem 1) = true := by simp [henc]
  have e1' : Min.min s.list.length la.length = s.list.length := by rw [hlen, Nat.min_self]
  have e2' : (la.map enc).take 0 ++ (s.list.map enc).take s.list.length ++ (la.map enc).drop s.list.length = s.list.map enc := by
    rw [List.take_zero, List.nil_append, List.take_of_length_le (by simp), List.drop_of_length_le (by simp [hlen]), List.append_nil]
  exact WX.told (fun call => by simp only [stepV, ha, hct, if_true, copyV, hx, hy, he, hs, added_sl0, tget_mk, hb, hn, List.length_map, Nat.zero_add, Nat.le_refl, and_self, if_true, mk_set, e1', e2']) h hw
/-- a closure over two variables that nobody writes any more -/
theorem Wo.clos2 {fn : FuncId} {p1 p2 : Operand} {b1 g1 off1 b2 g2 off2 : Nat} {cs1 cs2 : List SV} {vs1 vs2 : List VV} {wr1 wr2 : Bool}
    (h : WX P pol f ops l K n x ((d, .val (.func fn [] [.elt [.agg vs1] 0 off1, .elt [.agg vs2] 0 off2])) :: u) y ((b2, .box g2 cs2 false) :: (b1, .box g1 cs1 false) :: w) H) (hx1 : evX n x u p1 = some (.loc b1 g1 off1) := by rfl) (hb1 : tgX n y w b1 = .box g1 cs1 wr1 := by rfl) (hv1 : allVal cs1 = true := by rfl)
    (hx2 : evX n x u p2 = some (.loc b2 g2 off2) := by rfl) (hb2 : tgX n y ((b1, .box g1 cs1 false) :: w) b2 = .box g2 cs2 wr2 := by rfl) (hv2 : allVal cs2 = true := by rfl)
    (hw : openX ops g n x u = true := by rfl) (hn1 : outL cs1 = vs1 := by (try dsimp only [outL]) <;> rfl) (hn2 : outL cs2 = vs2 := by (try dsimp only [outL]) <;> rfl) : WX P pol f ops (⟨some d, .makeFunc (.func fn) #[] #[p1, p2], ty, pos, after, g⟩ :: l) K n x u y w H := by
  subst hn1; subst hn2
  refine WX.told (fun call => ?_) h hw
  have o1 : outT (lay n y w) (.loc b1 g1 off1) = some (.elt [.agg (outL cs1)] 0 off1, lay n y ((b1, .box g1 cs1 false) :: w)) := by
    have := (by simp only [outT1, tget_mk, hb1, if_true, mapM_outL hv1, mk_set] : outT1 (lay n y w) (.loc b1 g1 off1) = some (.elt [.agg (outL cs1)] 0 off1, lay n y ((b1, .box g1 cs1 false) :: w)))
    exact this
  have o2 : outT (lay n y ((b1, .box g1 cs1 false) :: w)) (.loc b2 g2 off2) = some (.elt [.agg (outL cs2)] 0 off2, lay n y ((b2, .box g2 cs2 false) :: (b1, .box g1 cs1 false) :: w)) := by
    have := (by simp only [outT1, tget_mk, hb2, if_true, mapM_outL hv2, mk_set] : outT1 (lay n y ((b1, .box g1 cs1 false) :: w)) (.loc b2 g2 off2) = some (.elt [.agg (outL cs2)] 0 off2, lay n y ((b2, .box g2 cs2 false) :: (b1, .box g1 cs1 false) :: w)))
    exact this
  simp only [stepV, List.mapM_nil, List.mapM_cons, hx1, hx2, Option.pure_def, Option.bind_eq_bind, Option.bind_some, outAll, o1, o2]
theorem Sl.eq_some {α : Type} {s : Sl α} {a : α} {l : List α} (h : s.list = a :: l) : s = some (a :: l) := by
  cases s with
  | none => simp [Sl.list] at h
  | some l' => simp only [Sl.list] at h; rw [h]
end
end Go.Vi

/-
  Structs built of single cells, slices among them.
-/
namespace Go.Vi
set_option linter.unusedVariables false
set_option linter.unusedSimpArgs false

theorem svCells_sl {α : Type} {enc : α → VV} {s : Sl α} : svCells (.val (slV enc s)) = [.val (slV enc s)] := by cases s <;> rfl
def OneP (m : Nat) : List (Nat × Nat × SV) → Prop
  | [] => True
  | (off, n, v) :: r => (n = 1 ∧ svCells v = [v] ∧ oneCell v = true ∧ Nat.blt off m = true) ∧ OneP m r
def fill1 : List SV → List (Nat × Nat × SV) → List SV
  | cs, [] => cs
  | cs, (off, _, v) :: r => fill1 (cs.set off v) r
theorem OneP.fill : ∀ {qs : List (Nat × Nat × SV)} {cs : List SV}, OneP cs.length qs → fillS cs qs = some (fill1 cs qs)
  | [], _, _ => rfl
  | (off, n, v) :: r, cs, ⟨⟨h1, h2, h3, h4⟩, hr⟩ => by
    subst h1
    have h5 := blt_lt h4
    have hc : (svCells v).length = 1 ∧ off + 1 ≤ cs.length ∧ (svCells v).all oneCell = true := by rw [h2]; simp [h3]; omega
    unfold fillS fill1
    rw [if_pos hc, h2]
    show fillS (cs.set off v) r = _
    exact OneP.fill (by rw [List.length_set]; exact hr)
section
variable {P : Program} {pol : Pol} {f : FuncId} {ops : Array Oper} {K : Fr → Hp → Prop} {n : Nat} {x : Nat → SV} {u : List (Nat × SV)} {y : Nat → TC} {w : List (Nat × TC)} {H : Hp} {l : List Oper} {d : Tmp} {ty : TypeId} {pos : String} {after : Array Edge} {g : Option (Nat × Bool)} {t : TypeId}
theorem Wo.buildP {parts : Array (Nat × Operand)} {z : VV} {fs : List Field} {ps : List (Nat × SV)} {qs : List (Nat × Nat × SV)} {zs cs : List SV} {vs : List VV} (h : WX P pol f ops l K n x ((d, .val (.agg vs)) :: u) y w H) (hz : zeroT P t = some z := by rfl) (hf : fieldsOf P t = some fs := by rfl) (hp : partsOf (evX n x u) parts.toList = some ps := by rfl)
    (hq : placesOf P fs ps = some qs := by rfl) (hzs : z.cells.map .val = zs := by (try dsimp only [VV.cells, List.map, List.reverse, List.reverseAux]) <;> rfl) (h1 : OneP zs.length qs := by repeat' (first | trivial | exact svCells_sl | exact oneCell_sl | rfl | constructor)) (hc : fill1 zs qs = cs := by (try dsimp only [List.reverse, List.reverseAux, fill1, List.set]) <;> rfl) (ha : (fs.all fun f => (sizeT P f.type).isSome) = true := by rfl) (hv : allVal cs = true := by rfl) (hw : openX ops g n x u = true := by rfl)
    (hn : outL cs = vs := by (try dsimp only [List.set, outL]) <;> rfl) : WX P pol f ops (⟨some d, .build t parts, ty, pos, after, g⟩ :: l) K n x u y w H := by
  subst hn; subst hzs; subst hc
  exact WX.told (fun call => by simp only [stepV, hz, hf, hp, hq, OneP.fill h1, ha, if_true, stOf, mapM_outL hv]) h hw
end
/-- steps of regions behind which slots are frozen -/
theorem Wz {A B : Prop} (h : B) (hs : B → A := by
  first
    | exact fun h => Wx.plainZ h
    | exact fun h => Wx.dynZ h
    | (guard_target =~ _ → WX _ _ _ _ [] (FrzK _ _) _ _ _ _ _ _
       exact fun h => Wo.nilZ h)
    | (guard_target =~ _ → WX _ _ _ _ [] (DynZ _ _ _ _ _) _ _ _ _ _ _
       exact fun h => Wo.nilDZ h)
    | fail) : A := hs h
end Go.Vi

/-
  Texts: cut, put together.
-/
namespace Go.Vi
set_option linter.unusedVariables false
set_option linter.unusedSimpArgs false

section
variable {P : Program} {pol : Pol} {f : FuncId} {ops : Array Oper} {K : Fr → Hp → Prop} {n : Nat} {x : Nat → SV} {u : List (Nat × SV)} {y : Nat → TC} {w : List (Nat × TC)} {H : Hp} {l : List Oper} {d : Tmp} {ty : TypeId} {pos : String} {after : Array Edge} {g : Option (Nat × Bool)}
variable {t : TypeId} {p lo hi : Operand} {s : ByteArray} {i j : Int} {k k0 : IntKind}
theorem Wo.scutB (h : WX P pol f ops l K n x ((d, .val (.str (s.extract i.toNat j.toNat))) :: u) y w H) (hx : evX n x u p = some (.val (.str s)) := by rfl) (hi1 : evX n x u lo = some (.val (.int k0 i)) := by rfl) (hi2 : evX n x u hi = some (.val (.int k j)) := by rfl) (hb : (0 ≤ j ∧ j ≤ s.size) ∧ (0 ≤ i ∧ i ≤ j) := by omega)
    (ht : P.underlying t = some .string := by rfl) (hw : openX ops g n x u = true := by rfl) : WX P pol f ops (⟨some d, .slice t p (some lo) (some hi) none, ty, pos, after, g⟩ :: l) K n x u y w H :=
  WX.told (fun call => by simp only [stepV, pureV, hx, opt, hi1, hi2, Option.bind_eq_bind, Option.bind_some, sliceV, ht, cut_both hb.1 hb.2, Option.map_some]) h hw
theorem Wo.scutLo (h : WX P pol f ops l K n x ((d, .val (.str (s.extract i.toNat s.size))) :: u) y w H) (hx : evX n x u p = some (.val (.str s)) := by rfl) (hi1 : evX n x u lo = some (.val (.int k0 i)) := by rfl) (hb : 0 ≤ i ∧ i ≤ s.size := by omega)
    (ht : P.underlying t = some .string := by rfl) (hw : openX ops g n x u = true := by rfl) : WX P pol f ops (⟨some d, .slice t p (some lo) none none, ty, pos, after, g⟩ :: l) K n x u y w H :=
  WX.told (fun call => by simp only [stepV, pureV, hx, opt, hi1, Option.bind_eq_bind, Option.bind_some, sliceV, ht, cut_lo hb, Option.map_some]) h hw
theorem Wo.cat {ut : TypeId} {q : Operand} {a b : ByteArray} (h : WX P pol f ops l K n x ((d, .val (.str (a ++ b))) :: u) y w H) (hx : evX n x u p = some (.val (.str a)) := by rfl) (hy : evX n x u q = some (.val (.str b)) := by rfl) (hb : a.size + b.size ≤ 140737488355328 := by omega)
    (hw : openX ops g n x u = true := by rfl) : WX P pol f ops (⟨some d, .binOp .add t p q ut, ty, pos, after, g⟩ :: l) K n x u y w H :=
  WX.told (stepV_bin hx hy (by simp only [binV, strBin, if_pos hb])) h hw
/-- texts in order -/
theorem Wo.slt {ut : TypeId} {q : Operand} {a b : ByteArray} (ht : Op.bytesLess a.toList b.toList = true → WX P pol f ops l K n x ((d, .val (.bool true)) :: u) y w H) (hf : ¬ Op.bytesLess a.toList b.toList = true → WX P pol f ops l K n x ((d, .val (.bool false)) :: u) y w H) (hx : evX n x u p = some (.val (.str a)) := by rfl) (hy : evX n x u q = some (.val (.str b)) := by rfl)
    (hw : openX ops g n x u = true := by rfl) : WX P pol f ops (⟨some d, .binOp .lss t p q ut, ty, pos, after, g⟩ :: l) K n x u y w H := by
  cases h : Op.bytesLess a.toList b.toList with
  | true => exact WX.told (stepV_bin hx hy (by simp only [binV, strBin, h])) (ht h) hw
  | false => exact WX.told (stepV_bin hx hy (by simp only [binV, strBin, h])) (hf (by simp [h])) hw
theorem Wo.sgt {ut : TypeId} {q : Operand} {a b : ByteArray} (ht : (Op.bytesLess a.toList b.toList || a.toList == b.toList) = false → WX P pol f ops l K n x ((d, .val (.bool true)) :: u) y w H) (hf : ¬ (Op.bytesLess a.toList b.toList || a.toList == b.toList) = false → WX P pol f ops l K n x ((d, .val (.bool false)) :: u) y w H) (hx : evX n x u p = some (.val (.str a)) := by rfl) (hy : evX n x u q = some (.val (.str b)) := by rfl)
    (hw : openX ops g n x u = true := by rfl) : WX P pol f ops (⟨some d, .binOp .gtr t p q ut, ty, pos, after, g⟩ :: l) K n x u y w H := by
  cases h : (Op.bytesLess a.toList b.toList || a.toList == b.toList) with
  | false => exact WX.told (stepV_bin hx hy (by simp only [binV, strBin, h, Bool.not_false])) (ht h) hw
  | true => exact WX.told (stepV_bin hx hy (by simp only [binV, strBin, h, Bool.not_true])) (hf (by simp [h])) hw
end
section
variable {α : Type} {enc : α → VV} {P : Program} {pol : Pol} {f : FuncId} {ops : Array Oper} {K : Fr → Hp → Prop} {n : Nat} {x : Nat → SV} {u : List (Nat × SV)} {y : Nat → TC} {w : List (Nat × TC)} {H : Hp} {l : List Oper} {d : Tmp} {ty : TypeId} {pos : String} {after : Array Edge} {g : Option (Nat × Bool)}
/-- a box for a slice -/
theorem Wo.boxS {t : TypeId} {p : Operand} {s : Sl α} (h : ∀ g', WX P pol f ops l K n x ((d, .loc d g' 0) :: u) y ((d, .box g' [.val (slV enc s)] true) :: w) H) (hx : evX n x u p = some (.val (slV enc s)) := by rfl) (hd : Nat.blt d n = true := by rfl) (hoh : onHeap (pol.keys f) d = false := by rfl) (hw : openX ops g n x u = true := by rfl) :
    WX P pol f ops (⟨some d, .box t p, ty, pos, after, g⟩ :: l) K n x u y w H :=
  Wo.box h hx hd (by rw [svCells_sl]; simp [oneCell_sl]) hoh hw svCells_sl
/-- the front of a slice, told as it is -/
theorem Wo.cutHiS {t e : TypeId} {p hi : Operand} {sz : Nat} {s : Sl α} {j : Int} {k : IntKind} (h : WX P pol f ops l K n x ((d, .val (slV enc (s.map fun l => (l.take j.toNat).drop 0))) :: u) y w H) (hx : evX n x u p = some (.val (slV enc s)) := by rfl) (hi2 : evX n x u hi = some (.val (.int k j)) := by rfl) (hb : 0 ≤ j ∧ j ≤ s.list.length := by omega)
    (ht : P.underlying t = some (.slice e) := by rfl) (hs : sizeT P e = some sz := by rfl) (hc : ∀ a, (enc a).cells.length = sz := by intro _; rfl) (hw : openX ops g n x u = true := by rfl) :
    WX P pol f ops (⟨some d, .slice t p (none) (some hi) none, ty, pos, after, g⟩ :: l) K n x u y w H := by
  refine WX.told (fun call => ?_) h hw
  simp only [stepV, pureV, hx, opt, hi2, Option.bind_eq_bind, Option.bind_some, sliceV_sl ht hs hc (cut_hi hb), Option.map_some]
end
section
variable {P : Program} {pol : Pol} {f : FuncId} {ops : Array Oper} {K : Fr → Hp → Prop} {n : Nat} {x : Nat → SV} {u : List (Nat × SV)} {y : Nat → TC} {w : List (Nat × TC)} {H : Hp} {l : List Oper} {d : Tmp} {ty : TypeId} {pos : String} {after : Array Edge} {g : Option (Nat × Bool)}
/-- a call whose answer is known of one state alone -/
theorem Wo.callAt {c : Call} {fid : FuncId} {first cap : List VV} {as : List SV} {r : List RV} {v v' : SV} {us : List VV} {vs0 : List RV} (hR : Runs P pol fid vs0 (Hp.bare H.next) (r, [], Hp.bare H.next)) (h : WX P pol f ops l K n x ((d, v') :: u) y w H) {fo : Operand} (hcal : c.callee = .value fo := by rfl) (hf : evX n x u fo = some (.val (.func fid first cap)) := by rfl) (ha : (c.args.toList.map (evX n x u)).mapM id = some as := by rfl)
    (ho : as.mapM plainS = some us := by rfl) (he : first.map .val ++ us.map .val ++ cap.map .val = vs0 := by rfl) (hp : pol.pure fid = true := by rfl) (hv : ∀ tab, ofRV tab (d :: pol.keys f d) r = some (v, tab) := by intro _; rfl) (hw : openX ops g n x u = true := by rfl) (hn : v = v' := by rfl) :
    WX P pol f ops (⟨some d, .call c, ty, pos, after, g⟩ :: l) K n x u y w H := by
  subst hn; subst he
  obtain ⟨k, hk⟩ := hR
  exact WX.called ⟨k, fun call e => by subst e; exact stepV_call (dst := some d) (back := []) (lent := []) hk hcal hf ha (outArgs_plain ho) rfl hp (by rw [ite_self]; rfl) (hv _)⟩ hw h
end
theorem size_zero {s : ByteArray} (h : s.size = 0) : s = ⟨#[]⟩ := ByteArray.ext (Array.eq_empty_of_size_eq_zero h)
theorem extract_nil {s : ByteArray} {k : Nat} : s.extract k k = ⟨#[]⟩ := size_zero (by rw [ByteArray.size_extract]; omega)
theorem extract_add {s : ByteArray} {a b c : Nat} (h1 : a ≤ b) (h2 : b ≤ c) : s.extract a b ++ s.extract b c = s.extract a c := by
  apply ByteArray.ext
  rw [ByteArray.data_append, ByteArray.data_extract, ByteArray.data_extract, ByteArray.data_extract, Array.extract_append_extract, Nat.min_eq_left h1, Nat.max_eq_right h2]
end Go.Vi

/-
  Rows that are lent, or given away.
-/
namespace Go.Vi
set_option linter.unusedVariables false
set_option linter.unusedSimpArgs false
section
variable {P : Program} {pol : Pol} {f : FuncId} {ops : Array Oper} {K : Fr → Hp → Prop} {n : Nat} {x : Nat → SV} {u : List (Nat × SV)} {y : Nat → TC} {w : List (Nat × TC)} {H : Hp} {l : List Oper} {d : Tmp} {ty : TypeId} {pos : String} {after : Array Edge} {g : Option (Nat × Bool)}
variable {c : Call} {fid : FuncId} {v0 : VV} {o g' sz m : Nat} {es es' : List VV}
/-- a row is lent, and comes back -/
theorem Wo.lendRow (hR : ∀ H, Runs P pol fid [.own es sz, .val v0] H ([], [.own es' sz], H)) (h : WX P pol f ops l K n x ((d, .tup []) :: u) y ((o, .row g' es' sz false) :: w) H) {fo : Operand} (hcal : c.callee = .value fo := by rfl) (hf : evX n x u fo = some (.val (.func fid [] [])) := by rfl)
    (ha : (c.args.toList.map (evX n x u)).mapM id = some [.own o g' 0 m sz, .val v0] := by rfl) (hb : tgX n y w o = .row g' es sz false := by rfl) (hm : m = es.length := by first | rfl | (simp; done) | (simp; omega)) (hl : es'.length = es.length := by first | rfl | (simp; done) | (simp; omega))
    (hm0 : pol.mode fid 0 = 2 := by rfl) (hm1 : pol.mode fid 1 = 0 := by rfl) (hp : pol.pure fid = true := by rfl) (hw : openX ops g n x u = true := by rfl) : WX P pol f ops (⟨some d, .call c, ty, pos, after, g⟩ :: l) K n x u y w H := by
  obtain ⟨kk, hk⟩ := hR (Hp.bare H.next)
  subst hm
  have ho : outArgs (pol.mode fid) (lay n y w) 0 [.own o g' 0 es.length sz, .val v0] = some ([.own es sz, .val v0], lay n y w, [.row o g']) := by
    have h0 : outT (lay n y w) (.val v0) = some (v0, lay n y w) := rfl
    have h2 : outArg 2 (lay n y w) (.own o g' 0 es.length sz) = some (.own es sz, lay n y w, [.row o g']) := by
      simp only [outArg, tget_mk, hb, and_self, if_true]
    simp only [outArgs, hm0, hm1, outArg_zero, h0, h2, Option.map_some, List.append_nil]
  have hbk : backV (lay n y w) [.row o g'] [.own es' sz] = some (lay n y ((o, .row g' es' sz false) :: w)) := by
    simp only [backV, tget_mk, hb, hl, and_self, if_true, mk_set]
  exact WX.called ⟨kk, fun call e => by
    subst e
    exact stepV_call (dst := some d) (first := []) (cap := []) (by simpa using hk) hcal hf ha ho (by simp only [List.all_cons, List.all_nil, stillOwn, tget_mk, hb, beq_self_eq_true, Bool.and_true, List.map_cons, List.map_nil, nodupN, List.contains_nil, Bool.not_false]) hp (by
      rw [ite_self]; exact hbk) (by rfl)⟩ hw h
/-- a row is given away, and a row is the answer -/
theorem Wo.giveRow (hR : ∀ H, Runs P pol fid [.own es sz] H ([.own es' sz], [], H)) (h : ∀ g2, WX P pol f ops l K n x ((d, .own d g2 0 es'.length sz) :: u) y ((d, .row g2 es' sz false) :: (o, .gone g') :: w) H) {fo : Operand} (hcal : c.callee = .value fo := by rfl) (hf : evX n x u fo = some (.val (.func fid [] [])) := by rfl)
    (ha : (c.args.toList.map (evX n x u)).mapM id = some [.own o g' 0 m sz] := by rfl) (hb : tgX n y w o = .row g' es sz false := by rfl) (hm : m = es.length := by first | rfl | (simp; done) | (simp; omega))
    (hm0 : pol.mode fid 0 = 1 := by rfl) (hd : Nat.blt d n = true := by rfl) (hp : pol.pure fid = true := by rfl) (hw : openX ops g n x u = true := by rfl) : WX P pol f ops (⟨some d, .call c, ty, pos, after, g⟩ :: l) K n x u y w H := by
  obtain ⟨kk, hk⟩ := hR (Hp.bare H.next)
  subst hm
  have hd' := blt_lt hd
  have ho : outArgs (pol.mode fid) (lay n y w) 0 [.own o g' 0 es.length sz] = some ([.own es sz], lay n y ((o, .gone g') :: w), []) := by
    have h2 : outArg 1 (lay n y w) (.own o g' 0 es.length sz) = some (.own es sz, lay n y ((o, .gone g') :: w), []) := by
      simp only [outArg, tget_mk, hb, Nat.zero_add, Nat.le_refl, and_self, if_true, List.drop_zero, List.take_length, mk_set]
    simp only [outArgs, hm0, h2, List.append_nil]
  exact WX.called ⟨kk, fun call e => by
    subst e
    exact stepV_call (dst := some d) (first := []) (cap := []) (back := []) (by simpa using hk) hcal hf ha ho rfl hp (by
      simp only [keepsAll, List.length_nil, hm0, isOwnS, beq_self_eq_true, Bool.and_self, Bool.not_true, Bool.false_and, Bool.and_false, Bool.false_eq_true, if_false]; rfl) (by
      simp only [ofRV, ofRVs, ofRV1, ofCell, Option.toList_some, List.cons_append, mk_length, hd', if_true, mk_set])⟩ hw (h ((tget (lay n y ((o, .gone g') :: w)) d).gen + 1))
/-- .. at a slice of no elements -/
theorem Wo.lendNone (hR : ∀ H, Runs P pol fid [.val (.lst []), .val v0] H ([], [], H)) (h : WX P pol f ops l K n x ((d, .tup []) :: u) y w H) {fo : Operand} (hcal : c.callee = .value fo := by rfl) (hf : evX n x u fo = some (.val (.func fid [] [])) := by rfl)
    (ha : (c.args.toList.map (evX n x u)).mapM id = some [.full [], .val v0] := by rfl) (hm0 : pol.mode fid 0 = 2 := by rfl) (hm1 : pol.mode fid 1 = 0 := by rfl) (hp : pol.pure fid = true := by rfl) (hw : openX ops g n x u = true := by rfl) : WX P pol f ops (⟨some d, .call c, ty, pos, after, g⟩ :: l) K n x u y w H := by
  obtain ⟨kk, hk⟩ := hR (Hp.bare H.next)
  have ho : outArgs (pol.mode fid) (lay n y w) 0 [.full [], .val v0] = some ([.val (.lst []), .val v0], lay n y w, []) := by
    have h0 : outT (lay n y w) (.val v0) = some (v0, lay n y w) := rfl
    have h2 : outArg 2 (lay n y w) (.full []) = some (.val (.lst []), lay n y w, []) := rfl
    simp only [outArgs, hm0, hm1, outArg_zero, h0, h2, Option.map_some, List.append_nil]
  exact WX.called ⟨kk, fun call e => by
    subst e
    exact stepV_call (dst := some d) (first := []) (cap := []) (back := []) (by simpa using hk) hcal hf ha ho rfl hp (by rw [ite_self]; rfl) (by rfl)⟩ hw h
theorem Wo.giveNone (hR : ∀ H, Runs P pol fid [.full []] H ([.full []], [], H)) (h : WX P pol f ops l K n x ((d, .full []) :: u) y w H) {fo : Operand} (hcal : c.callee = .value fo := by rfl) (hf : evX n x u fo = some (.val (.func fid [] [])) := by rfl)
    (ha : (c.args.toList.map (evX n x u)).mapM id = some [.full []] := by rfl) (hm0 : pol.mode fid 0 = 1 := by rfl) (hp : pol.pure fid = true := by rfl) (hw : openX ops g n x u = true := by rfl) : WX P pol f ops (⟨some d, .call c, ty, pos, after, g⟩ :: l) K n x u y w H := by
  obtain ⟨kk, hk⟩ := hR (Hp.bare H.next)
  have ho : outArgs (pol.mode fid) (lay n y w) 0 [.full []] = some ([.full []], lay n y w, []) := by
    have h2 : outArg 1 (lay n y w) (.full []) = some (.full [], lay n y w, []) := rfl
    simp only [outArgs, hm0, h2, List.append_nil]
  exact WX.called ⟨kk, fun call e => by
    subst e
    exact stepV_call (dst := some d) (first := []) (cap := []) (back := []) (by simpa using hk) hcal hf ha ho rfl hp (by rw [ite_self]; rfl) (by rfl)⟩ hw h
/-- a call that sees rows of one's own, and answers with what is no flat value -/
theorem Wo.callGL {us : List VV} {as : List SV} {vs0 : List RV} {v0 : VV} {w' : List (Nat × TC)} (hR : ∀ H, Runs P pol fid vs0 H ([.val v0], [], H)) (h : WX P pol f ops l K n x ((d, .val v0) :: u) y w' H) {fo : Operand} (hfl : flatV v0 = false := by rfl) (hcal : c.callee = .value fo := by rfl) (hf : evX n x u fo = some (.val (.func fid [] [])) := by rfl)
    (ha : (c.args.toList.map (evX n x u)).mapM id = some as := by rfl) (ho : ArgsX n y w as us w' := by repeat' (first | exact ArgsX.nil | exact OutsX.nil | apply ArgsX.st | apply ArgsX.one | apply OutsX.cons | exact OutX.val | exact OutX.full | apply OutX.own | rfl | (simp; done) | (simp; omega))) (he : us.map .val = vs0 := by rfl) (hm : ∀ i, pol.mode fid i = 0 := by intro _; rfl) (hp : pol.pure fid = true := by rfl)
    (hw : openX ops g n x u = true := by rfl) : WX P pol f ops (⟨some d, .call c, ty, pos, after, g⟩ :: l) K n x u y w H := by
  subst he
  obtain ⟨k, hk⟩ := hR (Hp.bare H.next)
  exact WX.called ⟨k, fun call e => by
    subst e
    exact stepV_call (dst := some d) (first := []) (cap := []) (back := []) (lent := []) (by simpa using hk) hcal hf ha (ho.told hm) rfl hp (by
      simp only [List.all_cons, List.all_nil, flatR, flatR1, hfl, Bool.false_and, Bool.and_false, Bool.false_eq_true, if_false]; rfl) (by
      simp only [ofRV, ofRVs, ofRV1, ofCell])⟩ hw h
end
end Go.Vi

/-
  Walks over a heap that changes: objects made, read, written; calls that see objects; loops whose heap hangs on their state.
-/
namespace Go.Vi
set_option linter.unusedVariables false
set_option linter.unusedSimpArgs false
section
variable {P : Program} {pol : Pol} {f : FuncId} {ops : Array Oper} {Q : PostV} {K : Fr → Hp → Prop} {n : Nat} {x : Nat → SV} {u : List (Nat × SV)} {y : Nat → TC} {w w' : List (Nat × TC)} {H H' : Hp} {l : List Oper} {d : Tmp} {ty : TypeId} {pos : String} {after : Array Edge} {g : Option (Nat × Bool)} {v v' : SV}

theorem WX.toldH {op : Op} (hs : ∀ call, stepV P pol (pol.keys f) call (some d) (evX n x u) (lay n y w) H op = some ⟨v, lay n y w', H'⟩) (h : WX P pol f ops l K n x ((d, v) :: u) y w' H') (hw : openX ops g n x u = true) :
    WX P pol f ops (⟨some d, op, ty, pos, after, g⟩ :: l) K n x u y w H := by
  refine ⟨WO.any (s := ⟨v, lay n y w', H'⟩) (wanted_of hw) (by rw [ev_mk]; exact hs) ?_⟩
  have : putS (lay n x u) (some d) v = lay n x ((d, v) :: u) := mk_set
  rw [this]
  exact h.h
theorem WX.muteH {op : Op} (hs : ∀ call, stepV P pol (pol.keys f) call none (evX n x u) (lay n y w) H op = some ⟨v, lay n y w', H'⟩) (h : WX P pol f ops l K n x u y w' H') (hw : openX ops g n x u = true) :
    WX P pol f ops (⟨none, op, ty, pos, after, g⟩ :: l) K n x u y w H :=
  ⟨WO.any (s := ⟨v, lay n y w', H'⟩) (wanted_of hw) (by rw [ev_mk]; exact hs) h.h⟩
theorem WX.calledH {c : Call} (hR : ∃ k, ∀ call, call = callV P pol k → stepV P pol (pol.keys f) call (some d) (evX n x u) (lay n y w) H (.call c) = some ⟨v, lay n y w', H'⟩) (hw : openX ops g n x u = true) (h : WX P pol f ops l K n x ((d, v) :: u) y w' H') :
    WX P pol f ops (⟨some d, .call c, ty, pos, after, g⟩ :: l) K n x u y w H := by
  obtain ⟨k, hk⟩ := hR
  have hs : putS (lay n x u) (some d) v = lay n x ((d, v) :: u) := mk_set
  refine ⟨WO.stepK ⟨k, ?_⟩ h.h⟩
  unfold opV
  rw [if_pos (wanted_of hw), ev_mk]
  simp only [hk _ rfl, Fr.put_eq, hs]

/-- a variable among the objects -/
theorem Wo.allocH {t : TypeId} {z : VV} (h : WX P pol f ops l K n x ((d, .val (.ptr H.next 0)) :: u) y w H') (hz : zeroT P t = some z := by rfl) (hoh : onHeap (pol.keys f) d = true := by rfl) (hH : H.put (.cells z.cells) = H' := by rfl) (hw : openX ops g n x u = true := by rfl) :
    WX P pol f ops (⟨some d, .alloc t, ty, pos, after, g⟩ :: l) K n x u y w H := by
  subst hH
  exact WX.toldH (fun call => by simp only [stepV, hz, hoh, if_true]) h hw
/-- what an object's cells hold -/
theorem Wo.loadHc {t : TypeId} {p : Operand} {o off : Nat} {cs : List VV} {c : VV} (hO : H.objs o = some (.cells cs)) (h : WX P pol f ops l K n x ((d, v') :: u) y w H) (hx : evX n x u p = some (.val (.ptr o off)) := by rfl) (hv : ldV P t cs off = some c := by rfl)
    (hw : openX ops g n x u = true := by rfl) (hn : .val c = v' := by (try dsimp only [VV.cells, List.take, List.drop, List.map, svCells, stOf, putCells, List.set, List.reverse, List.reverseAux, Bool.not_true, Bool.not_false]) <;> rfl) : WX P pol f ops (⟨some d, .load t p, ty, pos, after, g⟩ :: l) K n x u y w H := by
  subst hn
  exact WX.told (fun call => by simp only [stepV, hx, loadH, hO, hv, Option.map_some]) h hw
/-- an element of an object's row, of one cell -/
theorem Wo.loadHr {t : TypeId} {p : Operand} {o pl : Nat} {α : Type} {enc : α → VV} {la : List α} {a : α} (hO : H.objs o = some (.row (la.map enc) 1)) (ha : la[pl]? = some a) (h : WX P pol f ops l K n x ((d, .val (enc a)) :: u) y w H) (hx : evX n x u p = some (.val (.ptr o pl)) := by rfl)
    (hv : ldV P t (enc a).cells 0 = some (enc a) := by rfl) (hw : openX ops g n x u = true := by rfl) : WX P pol f ops (⟨some d, .load t p, ty, pos, after, g⟩ :: l) K n x u y w H :=
  WX.told (fun call => by simp only [stepV, hx, loadH, hO, Nat.div_one, Nat.mod_one, List.getElem?_map, ha, hv, Option.map_some]) h hw
/-- the address of an element of an object's row -/
theorem Wo.idxH {t e : TypeId} {p i : Operand} {o m : Nat} {k : IntKind} {j : Int} (h : WX P pol f ops l K n x ((d, .val (.ptr o j.toNat)) :: u) y w H) (hx : evX n x u p = some (.val (.row o 0 m 1)) := by rfl) (hi : evX n x u i = some (.val (.int k j)) := by rfl) (ht : P.underlying t = some (.slice e) := by rfl) (hs : sizeT P e = some 1 := by rfl)
    (hb : 0 ≤ j ∧ j < m := by constructor <;> omega) (hw : openX ops g n x u = true := by rfl) : WX P pol f ops (⟨some d, .indexAddr t p i, ty, pos, after, g⟩ :: l) K n x u y w H :=
  WX.told (stepV_idx hx hi (by simp only [indexAddrV, intOfV, ht, hs, hb, and_self, if_true, Option.bind_eq_bind, Option.bind_some, Nat.zero_add, Nat.mul_one])) h hw
theorem Wo.lenH {c : Call} {t e : TypeId} {p : Operand} {o off m sz : Nat} (h : WX P pol f ops l K n x ((d, .val (.int .i64 (m : Nat))) :: u) y w H) (hc : c.callee = .builtin .len := by rfl) (ha : c.args.toList = [p] := by rfl) (hx : evX n x u p = some (.val (.row o off m sz)) := by rfl) (ht : c.argTypes.toList = [t] := by rfl) (hu : P.underlying t = some (.slice e) := by rfl)
    (hw : openX ops g n x u = true := by rfl) : WX P pol f ops (⟨some d, .call c, ty, pos, after, g⟩ :: l) K n x u y w H :=
  WX.told (stepV_len hc ha ht hx (by simp only [lenOk, hu]) (by simp only [lenV])) h hw
theorem moveAll_val {mv : Bool} {tab : List TC} {v : VV} (hv : v.one = true) : moveAll mv tab H (svCells (.val v)) = some ([v], tab, H) := by
  have : svCells (.val v) = [.val v] := by cases v <;> first | rfl | (cases hv)
  rw [this]
  simp only [moveAll, moveV, outT1, out, Option.map_some]
/-- a whole element of an object's row is written -/
theorem Wo.storeHr {t : TypeId} {p q : Operand} {o pl : Nat} {α : Type} {enc : α → VV} {la : List α} {a : α} (hO : H.objs o = some (.row (la.map enc) 1)) (hl : pl < la.length) (hH : H.set o (some (.row ((la.set pl a).map enc) 1)) = H') (h : WX P pol f ops l K n x u y w H') (hx : evX n x u p = some (.val (.ptr o pl)) := by rfl) (hy : evX n x u q = some (.val (enc a)) := by rfl)
    (hs : sizeT P t = some 1 := by rfl) (hc : ∀ a, (enc a).one = true ∧ oneVV (enc a) = true ∧ oneCell (.val (enc a)) = true := by intro _; exact ⟨rfl, rfl, rfl⟩)
    (hw : openX ops g n x u = true := by rfl) : WX P pol f ops (⟨none, .store t p q, ty, pos, after, g⟩ :: l) K n x u y w H := by
  subst hH
  refine WX.muteH (v := .val .undef) (fun call => ?_) h hw
  have h1 := hc a
  have h3 : (svCells (.val (enc a))).all oneCell = true := by
    have : svCells (.val (enc a)) = [.val (enc a)] := by
      cases he : enc a with
      | agg cs => have := h1.1; rw [he] at this; cases this
      | _ => rfl
    rw [this]; simp only [List.all_cons, List.all_nil, h1.2.2, Bool.and_self]
  have h4 : setElem (enc la[pl]) 0 [enc a] = some (enc a) := by
    have h5 := hc la[pl]
    cases he : enc la[pl] with
    | agg cs => have := h5.1; rw [he] at this; cases this
    | _ => simp only [setElem, h1.1, if_true]
  simp only [stepV, hx, hy, h3, if_true, moveAll_val h1.1, storeH, hs, hO, List.length_singleton, List.all_cons, List.all_nil, h1.2.1, Bool.and_self, and_self, List.isEmpty_cons, Bool.false_eq_true, if_false, Nat.div_one, Nat.mod_one, List.getElem?_map, List.getElem?_eq_getElem hl, Option.map_some, h4, List.map_set]
/-- a row of one's own becomes an object: a variable among the objects holds it -/
theorem Wo.storeHo {t : TypeId} {p q : Operand} {o off b g' sz : Nat} {cs es : List VV} (hO : H.objs o = some (.cells cs)) (ho : o ≠ H.next) (hH : (H.put (.row es sz)).set o (some (.cells (putCells cs off [.row H.next 0 es.length sz]))) = H') (h : WX P pol f ops l K n x u y ((b, .gone g') :: w) H')
    (hx : evX n x u p = some (.val (.ptr o off)) := by rfl) {m : Nat} (hy : evX n x u q = some (.own b g' 0 m sz) := by rfl) (hm : m = es.length := by first | rfl | (simp; done) | (simp; omega)) (hb : tgX n y w b = .row g' es sz false := by rfl) (hl : off + 1 ≤ cs.length := by (try dsimp only [List.length]) <;> omega)
    (hmv : moves (pol.keys f) = true := by rfl) (hs : sizeT P t = some 1 := by rfl) (hw : openX ops g n x u = true := by rfl) : WX P pol f ops (⟨none, .store t p q, ty, pos, after, g⟩ :: l) K n x u y w H := by
  subst hH; subst hm
  refine WX.muteH (v := .val .undef) (fun call => ?_) h hw
  have h3 : (svCells (.own b g' 0 es.length sz)).all oneCell = true := rfl
  have h5 : (H.put (.row es sz)).objs o = some (.cells cs) := by simp only [Hp.put, if_neg ho, hO]
  have h6 : svCells (.own b g' 0 es.length sz) = [.own b g' 0 es.length sz] := rfl
  have h7 : moveAll true (lay n y w) H [.own b g' 0 es.length sz] = some ([.row H.next 0 es.length sz], lay n y ((b, .gone g') :: w), H.put (.row es sz)) := by
    simp only [moveAll, moveV, if_true, tget_mk, hb, Nat.zero_add, Nat.le_refl, and_self, Nat.zero_mul, mk_set]
  have h8 : oneVV (.row H.next 0 es.length sz) = true := rfl
  have h9 : oneCell (.own b g' 0 es.length sz) = true := rfl
  simp only [stepV, hx, hy, h3, if_true, h6, hmv, h7, storeH, hs, h5, List.length_singleton, List.all_cons, List.all_nil, h8, h9, Bool.and_self, and_self, hl, if_true, Option.map_some]
/-- a closure over a plain value -/
theorem Wo.closV {fn : FuncId} {o : Operand} {a : VV} (h : WX P pol f ops l K n x ((d, .val (.func fn [] [a])) :: u) y w H) (hx : evX n x u o = some (.val a) := by rfl)
    (hw : openX ops g n x u = true := by rfl) : WX P pol f ops (⟨some d, .makeFunc (.func fn) #[] #[o], ty, pos, after, g⟩ :: l) K n x u y w H :=
  WX.told (fun call => by simp only [stepV, List.mapM_nil, List.mapM_cons, hx, Option.pure_def, Option.bind_eq_bind, Option.bind_some, outAll, outT, outT1, out, Option.map_some]) h hw
/-- a call that sees objects, of values alone -/
theorem Wo.callI {c : Call} {fid : FuncId} {first cap us : List VV} {as : List SV} {vs0 r : List RV} (hR : Runs P pol fid vs0 H (r, [], H')) (h : WX P pol f ops l K n x ((d, v') :: u) y w H') {fo : Operand} (hcal : c.callee = .value fo := by rfl) (hf : evX n x u fo = some (.val (.func fid first cap)) := by rfl) (ha : (c.args.toList.map (evX n x u)).mapM id = some as := by rfl)
    (ho : as.mapM plainS = some us := by rfl) (he : first.map .val ++ us.map .val ++ cap.map .val = vs0 := by rfl) (hp : pol.pure fid = false := by rfl) (hv : ∀ tab, ofRV tab (d :: pol.keys f d) r = some (v, tab) := by intro _; rfl) (hw : openX ops g n x u = true := by rfl) (hn : v = v' := by (try dsimp only [VV.cells, List.take, List.drop, List.map, svCells, stOf, putCells, List.set, List.reverse, List.reverseAux, Bool.not_true, Bool.not_false]) <;> rfl) :
    WX P pol f ops (⟨some d, .call c, ty, pos, after, g⟩ :: l) K n x u y w H := by
  subst hn; subst he
  obtain ⟨k, hk⟩ := hR
  refine WX.calledH ⟨k, fun call e => ?_⟩ hw h
  subst e
  obtain ⟨ce, ar, ct⟩ := c
  simp only at hcal ha
  subst hcal
  have hk' : callV P pol k fid (first.map .val ++ us.map .val ++ cap.map .val) H = some (r, [], H') := hk
  have hv' := hv (lay n y w)
  have hb : ∀ tab : List TC, backV tab [] [] = some tab := fun _ => rfl
  simp only [stepV, callsV, hf, ha, outArgs_plain ho, keeps_eq hk' hp, hp, hk', Bool.false_and, Bool.false_eq_true, if_false, hb, Option.toList_some, List.singleton_append, Option.getD_some, hv', List.all_nil, List.map_nil, nodupN, Bool.and_self, Bool.not_true]

/-- the end of a round: the heap, too, is as it is to stand -/
structure RXH {α : Type} (S : α → List (Nat × SV)) (T : α → List (Nat × TC)) (Hs : α → Hp) (keep : List (Nat × SV)) (tkeep : List (Nat × TC)) (G : α → Prop) (μ : α → Nat) (m : Nat) (n : Nat) (fr : Fr) (H : Hp) : Prop where
  h : ∃ b, μ b < m ∧ G b ∧ H = Hs b ∧ Fits (S b ++ keep) fr.slots ∧ Fits (T b ++ tkeep) fr.tab ∧ fr.slots.length = n ∧ fr.tab.length = n
theorem Wx.loopH {c : Code} {α : Type} {keep : List (Nat × SV)} {tkeep : List (Nat × TC)} (Hs : α → Hp) (ks ts : List Nat) (S : α → List (Nat × SV)) (T : α → List (Nat × TC)) (G : α → Prop) (μ : α → Nat) (a0 : α) (g0 : G a0)
    (hr : ∀ (a : α) (x' : Nat → SV) (y' : Nat → TC), G a → EX P pol f c (PostV.seq (RXH S T Hs keep tkeep G μ (μ a) n) Q) n x' (S a ++ keep) y' (T a ++ tkeep) (Hs a)) (hH : H = Hs a0 := by rfl)
    (hk : keepX u ks = keep := by (try dsimp only [keepX, look, cond, Nat.beq]) <;> rfl) (hkt : keepX w ts = tkeep := by (try dsimp only [keepX, look, cond, Nat.beq]) <;> rfl) (h0 : fitsX n x u (S a0) := by repeat' constructor) (t0 : fitsX n y w (T a0) := by repeat' constructor)
    (hks : ks.all (fun i => Nat.blt i n) = true := by rfl) (hts : ts.all (fun i => Nat.blt i n) = true := by rfl) : EX P pol f (.loop c) Q n x u y w H := by
  subst hk; subst hkt
  refine ⟨WE.loop (fun m fr H' => ∃ (a : α), m = μ a ∧ G a ∧ H' = Hs a ∧ Fits (S a ++ keepX u ks) fr.slots ∧ Fits (T a ++ keepX w ts) fr.tab ∧ fr.slots.length = n ∧ fr.tab.length = n) (μ a0) ⟨a0, rfl, g0, hH, (Fits.lay h0).append (keepX_fits hks), (Fits.lay t0).append (keepX_fits hts), mk_length, mk_length⟩ ?_⟩
  rintro m ⟨sl, tb⟩ H' ⟨a, rfl, hG, rfl, h1, h2, h3, h4⟩
  have e1 := mk_of (z := default) h3 h1
  have e2 := mk_of (z := .gone 0) h4 h2
  have := (hr a (fun i => sl.getD i default) (fun i => tb.getD i (.gone 0)) hG).h
  rw [← e1, ← e2] at this
  refine WE.mono this fun e fr2 H2 hq => ?_
  cases e with
  | normal =>
    obtain ⟨b, q1, q2, rfl, q4, q5, q6, q7⟩ := hq.h
    exact ⟨_, q1, b, rfl, q2, rfl, q4, q5, q6, q7⟩
  | exit i => exact hq
  | ret => exact hq
theorem RdH {α : Type} {S : α → List (Nat × SV)} {T : α → List (Nat × TC)} {Hs : α → Hp} {keep : List (Nat × SV)} {tkeep : List (Nat × TC)} {G : α → Prop} {μ : α → Nat} {m : Nat} (b : α) (h1 : μ b < m) (h2 : G b) (h3 : H = Hs b)
    (hs : fitsX n x u (S b ++ keep) := by repeat' constructor) (ht : fitsX n y w (T b ++ tkeep) := by repeat' constructor) : QX (PostV.seq (RXH S T Hs keep tkeep G μ m n) Q) .normal n x u y w H :=
  ⟨⟨b, h1, h2, h3, Fits.lay hs, Fits.lay ht, mk_length, mk_length⟩⟩
end

theorem Runs.toldH {P : Program} {pol : Pol} {f : FuncId} {fn : Func} {c : Code} {args r0 b0 : List RV} {H H0 : Hp} {n : Nat} (u : List (Nat × SV)) (w : List (Nat × TC)) (he : pol.ext f = none) (hf : P.funcs[f]? = some fn) (hb : fn.body = some c) (hn : fn.ntmps = n)
    (hk : (fn.name == "runtime.NumGoroutine" || !args.all okArg) = false) (hl : Nat.ble args.length n = true) (hu : fitsL 0 u (argSlots 0 args)) (hw : fitsL 0 w (argTab args))
    (h : EX P pol f c (Left P pol f fn args (Ans r0 b0 H0)) n (fun _ => .val .undef) u (fun _ => .gone 0) w H) : Runs P pol f args H (r0, b0, H0) := by
  subst hn
  have hl' := Nat.le_of_ble_eq_true hl
  rw [Bool.or_eq_false_iff] at hk
  have e1 := entry_mk (z := SV.val .undef) (m := fn.ntmps - args.length) hu
  have e2 := entry_mk (z := TC.gone 0) (m := fn.ntmps - args.length) hw
  have l1 : (argSlots 0 args).length = args.length := argSlots_length 0 args
  have l2 : (argTab args).length = args.length := argTab_length args
  rw [l1, show args.length + (fn.ntmps - args.length) = fn.ntmps by omega] at e1
  rw [l2, show args.length + (fn.ntmps - args.length) = fn.ntmps by omega] at e2
  have h' := h.h
  rw [← e1, ← e2] at h'
  obtain ⟨r, b, H', h1, rfl, rfl, rfl⟩ := Runs.of_we (fn := fn) (args := args) he hf hb (by rw [hk.1, hk.2, Bool.or_false, Bool.false_or]; exact decide_eq_false (by omega)) h'
  exact h1
theorem Wl.retH {P : Program} {pol : Pol} {f : FuncId} {fn : Func} {args r r0 : List RV} {H H0 : Hp} {n : Nat} {x : Nat → SV} {u : List (Nat × SV)} {y : Nat → TC} {w : List (Nat × TC)} {vs : List SV} (h : r = r0) (hH : H = H0) (hr : ResX P n x u y w fn.results.toList vs := by repeat' (first | exact ResX.nil | apply ResX.tmp | apply ResX.cell | rfl)) (ho : PlainX vs r := by repeat' (first | exact PlainX.nil | apply PlainX.cons))
    (hm : args.all (fun a => !isOwned a) = true := by rfl) : QX (Left P pol f fn args (Ans r0 [] H0)) .ret n x u y w H := by
  subst hH
  exact Wl.ret h hr ho hm
theorem Wl.normalH {P : Program} {pol : Pol} {f : FuncId} {fn : Func} {args r r0 : List RV} {H H0 : Hp} {n : Nat} {x : Nat → SV} {u : List (Nat × SV)} {y : Nat → TC} {w : List (Nat × TC)} {vs : List SV} (h : r = r0) (hH : H = H0) (hr : ResX P n x u y w fn.results.toList vs := by repeat' (first | exact ResX.nil | apply ResX.tmp | apply ResX.cell | rfl)) (ho : PlainX vs r := by repeat' (first | exact PlainX.nil | apply PlainX.cons))
    (hm : args.all (fun a => !isOwned a) = true := by rfl) : QX (Left P pol f fn args (Ans r0 [] H0)) .normal n x u y w H := by
  subst hH
  exact Wl.normal h hr ho hm
end Go.Vi

/-
  Walks: maps, interface values, calls through interfaces.
-/
namespace Go.Vi
set_option linter.unusedVariables false
set_option linter.unusedSimpArgs false
section
variable {P : Program} {pol : Pol} {f : FuncId} {ops : Array Oper} {Q : PostV} {K : Fr → Hp → Prop} {n : Nat} {x : Nat → SV} {u : List (Nat × SV)} {y : Nat → TC} {w w' : List (Nat × TC)} {H H' : Hp} {l : List Oper} {d : Tmp} {ty : TypeId} {pos : String} {after : Array Edge} {g : Option (Nat × Bool)} {v v' : SV}
variable {t e : TypeId} {p q i : Operand} {kd : TypeDesc} {o cl m : Nat} {es : List (VV × VV × Nat)} {k a z : VV}

/-- a key that is there; one that isn't -/
theorem Wo.lookS (hO : H.objs o = some (.map es cl)) (hf : findV kd k es 0 = some (some (m, a))) (h : WX P pol f ops l K n x ((d, .tup [.val a, .val (.bool true)]) :: u) y w H) (hx : evX n x u p = some (.val (.map (some o))) := by rfl) (hi : evX n x u i = some (.val k) := by rfl) (hd : mapDesc P t = some (kd, e) := by rfl) (hk : keyOk kd k = true := by rfl)
    (hw : openX ops g n x u = true := by rfl) : WX P pol f ops (⟨some d, .lookup t p i true, ty, pos, after, g⟩ :: l) K n x u y w H :=
  WX.told (fun call => by simp only [stepV, lookupV, hx, hi, hd, hk, hO, hf, if_true, Option.map_some, okPair]) h hw
theorem Wo.lookN (hO : H.objs o = some (.map es cl)) (hf : findV kd k es 0 = some none) (h : WX P pol f ops l K n x ((d, .tup [.val z, .val (.bool false)]) :: u) y w H) (hx : evX n x u p = some (.val (.map (some o))) := by rfl) (hi : evX n x u i = some (.val k) := by rfl) (hd : mapDesc P t = some (kd, e) := by rfl) (hk : keyOk kd k = true := by rfl)
    (hz : zeroT P e = some z := by rfl) (hw : openX ops g n x u = true := by rfl) : WX P pol f ops (⟨some d, .lookup t p i true, ty, pos, after, g⟩ :: l) K n x u y w H :=
  WX.told (fun call => by simp only [stepV, lookupV, hx, hi, hd, hk, hO, hf, if_true, Option.map_some, okPair, hz]) h hw
/-- a map is written -/
theorem Wo.mapS (hO : H.objs o = some (.map es cl)) (hf : findV kd k es 0 = some (some (m, z))) (hH : H.set o (some (.map (es.modify m fun e => (k, a, e.2.2)) cl)) = H') (h : WX P pol f ops l K n x u y w H') (hx : evX n x u p = some (.val (.map (some o))) := by rfl) (hi : evX n x u i = some (.val k) := by rfl) (hq : evX n x u q = some (.val a) := by rfl)
    (hd : mapDesc P t = some (kd, e) := by rfl) (hk : keyOk kd k = true := by rfl) (hw : openX ops g n x u = true := by rfl) : WX P pol f ops (⟨none, .mapUpdate t p i q, ty, pos, after, g⟩ :: l) K n x u y w H := by
  subst hH
  exact WX.muteH (v := .val .undef) (fun call => by simp only [stepV, mapSetV, mapSt, hx, hi, hq, hd, hk, hO, hf, if_true, Option.map_some]) h hw
theorem Wo.mapN (hO : H.objs o = some (.map es cl)) (hf : findV kd k es 0 = some none) (hH : H.set o (some (.map (es ++ [(k, a, cl)]) (cl + 1))) = H') (h : WX P pol f ops l K n x u y w H') (hx : evX n x u p = some (.val (.map (some o))) := by rfl) (hi : evX n x u i = some (.val k) := by rfl) (hq : evX n x u q = some (.val a) := by rfl)
    (hd : mapDesc P t = some (kd, e) := by rfl) (hk : keyOk kd k = true := by rfl) (hw : openX ops g n x u = true := by rfl) : WX P pol f ops (⟨none, .mapUpdate t p i q, ty, pos, after, g⟩ :: l) K n x u y w H := by
  subst hH
  exact WX.muteH (v := .val .undef) (fun call => by simp only [stepV, mapSetV, mapSt, hx, hi, hq, hd, hk, hO, hf, if_true, Option.map_some]) h hw
/-- an entry that is there is taken, and written -/
theorem Wo.entS {en : VV × VV × Nat} (hO : H.objs o = some (.map es cl)) (hf : findV kd k es 0 = some (some (m, a))) (hen : es[m]? = some en) (hH : H.set o (some (.map (es.modify m fun e => (k, e.2.1, e.2.2)) cl)) = H') (h : WX P pol f ops l K n x ((d, .tup [.val a, .val (.int .i64 en.2.2)]) :: u) y w H')
    (hx : evX n x u p = some (.val (.map (some o))) := by rfl) (hi : evX n x u i = some (.val k) := by rfl) (hd : mapDesc P t = some (kd, e) := by rfl) (hk : keyOk kd k = true := by rfl) (hw : openX ops g n x u = true := by rfl) :
    WX P pol f ops (⟨some d, .mapEntry t p i, ty, pos, after, g⟩ :: l) K n x u y w H := by
  subst hH
  exact WX.toldH (fun call => by simp only [stepV, mapEntV, mapSt, hx, hi, hd, hk, hO, hf, hen, if_true, Option.map_some]) h hw
theorem Wo.entStore {b : Int} (hO : H.objs o = some (.map es cl)) (hf : es.findIdx? (fun e => (e.2.2 : Int) == b) = some m) (hH : H.set o (some (.map (es.modify m fun e => (e.1, a, e.2.2)) cl)) = H') (h : WX P pol f ops l K n x u y w H')
    (hx : evX n x u p = some (.val (.map (some o))) := by rfl) (hi : evX n x u i = some (.val (.int .i64 b)) := by rfl) (hq : evX n x u q = some (.val a) := by rfl) (hw : openX ops g n x u = true := by rfl) :
    WX P pol f ops (⟨none, .entryStore t p i q, ty, pos, after, g⟩ :: l) K n x u y w H := by
  subst hH
  exact WX.muteH (v := .val .undef) (fun call => by simp only [stepV, entStoreV, mapSt, hx, hi, hq, hO, hf, Option.map_some]) h hw
/-- a key goes -/
theorem Wo.delS {c : Call} {t' : TypeId} (hO : H.objs o = some (.map es cl)) (hf : findV kd k es 0 = some (some (m, z))) (hH : H.set o (some (.map (es.eraseIdx m) cl)) = H') (h : WX P pol f ops l K n x u y w H') (hc : c.callee = .builtin .delete := by rfl) (ha : c.args.toList = [p, i] := by rfl) (hct : c.argTypes.toList = [t, t'] := by rfl)
    (hx : evX n x u p = some (.val (.map (some o))) := by rfl) (hi : evX n x u i = some (.val k) := by rfl) (hd : mapDesc P t = some (kd, e) := by rfl) (hk : keyOk kd k = true := by rfl) (hw : openX ops g n x u = true := by rfl) :
    WX P pol f ops (⟨none, .call c, ty, pos, after, g⟩ :: l) K n x u y w H := by
  subst hH
  obtain ⟨ce, ar, at'⟩ := c
  simp only at hc ha hct
  subst hc
  exact WX.muteH (v := .tup []) (fun call => by simp only [stepV, deleteV, mapSt, ha, hct, hx, hi, hd, hk, hO, hf, if_true, Option.map_some]) h hw
/-- a new map -/
theorem Wo.mapMake (hH : H.put (.map [] 0) = H') (h : WX P pol f ops l K n x ((d, .val (.map (some H.next))) :: u) y w H') (hw : openX ops g n x u = true := by rfl) : WX P pol f ops (⟨some d, .makeMap t none, ty, pos, after, g⟩ :: l) K n x u y w H := by
  subst hH
  exact WX.toldH (fun call => by simp only [stepV, makeMapV, mapSt, Option.map_none, Option.map_some]) h hw
/-- what an interface value holds, of its own type -/
theorem Wo.asrt {xt : TypeId} {td : TypeDesc} (hu : P.underlying t = some td) (hni : ∀ s, td ≠ .interface s) (h : WX P pol f ops l K n x ((d, .tup [.val a, .val (.bool true)]) :: u) y w H) (hx : evX n x u p = some (.val (.iface t a)) := by rfl) (hw : openX ops g n x u = true := by rfl) :
    WX P pol f ops (⟨some d, .typeAssert p xt t true, ty, pos, after, g⟩ :: l) K n x u y w H := by
  refine WX.told (fun call => ?_) h hw
  cases td <;> first | (exact absurd rfl (hni _)) | simp only [stepV, assertV, hu, hx, if_true, okPair, Option.map_some]
/-- a call through an interface, of values alone -/
theorem Wo.invI {c : Call} {fid : FuncId} {us : List VV} {as : List SV} {vs0 r : List RV} {ro : Operand} {name : String} (hR : Runs P pol fid vs0 H (r, [], H')) (h : WX P pol f ops l K n x ((d, v') :: u) y w H') (hm : methV P t name = some fid := by kernel_rfl) (hcal : c.callee = .invoke ro name := by rfl) (hf : evX n x u ro = some (.val (.iface t a)) := by rfl)
    (ha : (c.args.toList.map (evX n x u)).mapM id = some as := by rfl) (ho : as.mapM plainS = some us := by rfl) (he : [RV.val a] ++ us.map .val ++ [] = vs0 := by rfl) (hp : pol.pure fid = false := by rfl) (hv : ∀ tab, ofRV tab (d :: pol.keys f d) r = some (v, tab) := by intro _; rfl) (hw : openX ops g n x u = true := by rfl)
    (hn : v = v' := by (try dsimp only [VV.cells, List.take, List.drop, List.map, svCells, stOf, putCells, List.set, List.reverse, List.reverseAux, Bool.not_true, Bool.not_false]) <;> rfl) :
    WX P pol f ops (⟨some d, .call c, ty, pos, after, g⟩ :: l) K n x u y w H := by
  subst hn; subst he
  obtain ⟨k, hk⟩ := hR
  refine WX.calledH ⟨k, fun call e => ?_⟩ hw h
  subst e
  obtain ⟨ce, ar, ct⟩ := c
  simp only at hcal ha
  subst hcal
  have hk' : callV P pol k fid ([a].map .val ++ us.map .val ++ []) H = some (r, [], H') := hk
  have hv' := hv (lay n y w)
  have hb : ∀ tab : List TC, backV tab [] [] = some tab := fun _ => rfl
  simp only [stepV, invokeF, hf, hm, Option.map_some, callsV, ha, outArgs_plain ho, keeps_eq hk' hp, hp, hk', Bool.false_and, Bool.false_eq_true, if_false, hb, Option.toList_some, List.singleton_append, Option.getD_some, hv', List.all_nil, List.map_nil, nodupN, Bool.and_self, Bool.not_true]
/-- the address of an element of an object's row, of many cells -/
theorem Wo.idxHs {sz nn : Nat} {ik : IntKind} {j : Int} (h : WX P pol f ops l K n x ((d, .val (.ptr o (j.toNat * sz))) :: u) y w H) (hx : evX n x u p = some (.val (.row o 0 nn sz)) := by rfl) (hi : evX n x u i = some (.val (.int ik j)) := by rfl) (ht : P.underlying t = some (.slice e) := by rfl) (hs : sizeT P e = some sz := by rfl)
    (hb : 0 ≤ j ∧ j < nn := by constructor <;> omega) (hw : openX ops g n x u = true := by rfl) : WX P pol f ops (⟨some d, .indexAddr t p i, ty, pos, after, g⟩ :: l) K n x u y w H :=
  WX.told (stepV_idx hx hi (by simp only [indexAddrV, intOfV, ht, hs, hb, and_self, if_true, Option.bind_eq_bind, Option.bind_some, Nat.zero_add])) h hw
/-- what stands in an element of an object's row -/
theorem Wo.loadHs {α : Type} {enc : α → VV} {la : List α} {b : α} {c : VV} {sz pl off fo : Nat} (hO : H.objs o = some (.row (la.map enc) sz)) (ha : la[pl]? = some b) (h : WX P pol f ops l K n x ((d, v') :: u) y w H) (hx : evX n x u p = some (.val (.ptr o off)) := by rfl) (hoff : off = pl * sz + fo := by first | rfl | omega) (hfo : fo < sz := by decide)
    (hv : ldV P t (enc b).cells fo = some c := by rfl) (hw : openX ops g n x u = true := by rfl) (hn : .val c = v' := by (try dsimp only [VV.cells, List.take, List.drop, List.map, svCells, stOf, putCells, List.set, List.reverse, List.reverseAux, Bool.not_true, Bool.not_false]) <;> rfl) :
    WX P pol f ops (⟨some d, .load t p, ty, pos, after, g⟩ :: l) K n x u y w H := by
  subst hn; subst hoff
  have e1 : (pl * sz + fo) / sz = pl := by rw [Nat.mul_comm, Nat.mul_add_div (by omega), Nat.div_eq_of_lt hfo, Nat.add_zero]
  have e2 : (pl * sz + fo) % sz = fo := by rw [Nat.mul_comm, Nat.mul_add_mod, Nat.mod_eq_of_lt hfo]
  exact WX.told (fun call => by simp only [stepV, hx, loadH, hO, e1, e2, List.getElem?_map, ha, hv, Option.map_some]) h hw
theorem moveAll_vals {mv : Bool} {tab : List TC} : ∀ {cs : List VV}, moveAll mv tab H (cs.map .val) = some (cs, tab, H)
  | [] => rfl
  | c :: cs => by
    simp only [List.map_cons, moveAll, moveV, outT1, out, Option.map_some, moveAll_vals (cs := cs)]
/-- a whole element of an object's row is written, of many cells -/
theorem Wo.storeHs {α : Type} {enc : α → VV} {la : List α} {b : α} {sz pl off : Nat} (hO : H.objs o = some (.row (la.map enc) sz)) (hl : pl < la.length) (hH : H.set o (some (.row ((la.set pl b).map enc) sz)) = H') (h : WX P pol f ops l K n x u y w H') (hx : evX n x u p = some (.val (.ptr o off)) := by rfl) (hy : evX n x u q = some (.val (enc b)) := by rfl)
    (hoff : off = pl * sz := by first | rfl | omega) (hsz : 0 < sz := by decide) (hs : sizeT P t = some (enc b).cells.length := by rfl) (hc : svCells (.val (enc b)) = (enc b).cells.map .val := by rfl) (h1 : (svCells (.val (enc b))).all oneCell = true := by rfl) (h2 : (enc b).cells.all oneVV = true := by rfl) (h3 : (enc b).cells.isEmpty = false := by rfl)
    (hse : ∀ b0, setElem (enc b0) 0 (enc b).cells = some (enc b) := by intro _; rfl) (hw : openX ops g n x u = true := by rfl) : WX P pol f ops (⟨none, .store t p q, ty, pos, after, g⟩ :: l) K n x u y w H := by
  subst hH; subst hoff
  refine WX.muteH (v := .val .undef) (fun call => ?_) h hw
  have e1 : pl * sz / sz = pl := Nat.mul_div_cancel _ hsz
  have e2 : pl * sz % sz = 0 := Nat.mul_mod_left _ _
  simp only [stepV, hx, hy, h1, if_true]
  rw [hc, moveAll_vals]
  simp only [storeH, hs, h2, hO, h3, and_self, if_true, Bool.false_eq_true, if_false, e1, e2, List.getElem?_map, List.getElem?_eq_getElem hl, Option.map_some, hse, List.map_set]
end

/-- where a key stands: entries of numbers -/
theorem findV_none {kd : TypeDesc} {k : VV} : ∀ {es : List (VV × VV × Nat)} {i : Nat}, (∀ e ∈ es, keyOk kd e.1 = true ∧ keySame k e.1 = false) → findV kd k es i = some none
  | [], i, _ => rfl
  | e :: es, i, h => by
    obtain ⟨h1, h2⟩ := h e (List.mem_cons_self ..)
    simp only [findV, h1, h2, if_true, Bool.false_eq_true, if_false]
    exact findV_none fun e he => h e (List.mem_cons_of_mem _ he)
theorem findV_found {kd : TypeDesc} {k : VV} : ∀ {es : List (VV × VV × Nat)} {i m : Nat} {e : VV × VV × Nat}, (∀ j, j < m → ∀ e, es[j]? = some e → keyOk kd e.1 = true ∧ keySame k e.1 = false) → es[m]? = some e → keyOk kd e.1 = true → keySame k e.1 = true → findV kd k es i = some (some (i + m, e.2.1))
  | [], i, m, e, _, he, _, _ => by simp at he
  | e0 :: es, i, 0, e, _, he, h1, h2 => by
    simp only [List.getElem?_cons_zero, Option.some.injEq] at he
    subst he
    simp only [findV, h1, h2, if_true, Nat.add_zero]
  | e0 :: es, i, m + 1, e, h, he, h1, h2 => by
    obtain ⟨q1, q2⟩ := h 0 (Nat.succ_pos _) e0 rfl
    simp only [findV, q1, q2, if_true, Bool.false_eq_true, if_false]
    rw [findV_found (m := m) (e := e) (fun j hj e' he' => h (j + 1) (by omega) e' (by simpa using he')) (by simpa using he) h1 h2]
    congr 3; omega
end Go.Vi

/-
  Walks: contracts that say of the heap behind a call only what is asked; rows among the objects are appended to, cut, copied.
-/
namespace Go.Vi
set_option linter.unusedVariables false
set_option linter.unusedSimpArgs false

/-- a call comes to an end of which R is true -/
def RunsE (P : Program) (pol : Pol) (f : FuncId) (args : List RV) (H : Hp) (R : List RV → Hp → Prop) : Prop := ∃ r H', Runs P pol f args H (r, [], H') ∧ R r H'
theorem RunsE.mono {P : Program} {pol : Pol} {f : FuncId} {args : List RV} {H : Hp} {R R' : List RV → Hp → Prop} (h : RunsE P pol f args H R) (hi : ∀ r H', R r H' → R' r H') : RunsE P pol f args H R' := by
  obtain ⟨r, H', h1, h2⟩ := h
  exact ⟨r, H', h1, hi _ _ h2⟩
theorem RunsE.of {P : Program} {pol : Pol} {f : FuncId} {args : List RV} {H H' : Hp} {R : List RV → Hp → Prop} {r : List RV} (h : Runs P pol f args H (r, [], H')) (h2 : R r H') : RunsE P pol f args H R := ⟨r, H', h, h2⟩
def AnsE (R : List RV → Hp → Prop) : List RV → List RV → Hp → Prop := fun r b H => b = [] ∧ R r H
theorem Runs.toldE {P : Program} {pol : Pol} {f : FuncId} {fn : Func} {c : Code} {args : List RV} {R : List RV → Hp → Prop} {H : Hp} {n : Nat} (u : List (Nat × SV)) (w : List (Nat × TC)) (he : pol.ext f = none) (hf : P.funcs[f]? = some fn) (hb : fn.body = some c) (hn : fn.ntmps = n)
    (hk : (fn.name == "runtime.NumGoroutine" || !args.all okArg) = false) (hl : Nat.ble args.length n = true) (hu : fitsL 0 u (argSlots 0 args)) (hw : fitsL 0 w (argTab args))
    (h : EX P pol f c (Left P pol f fn args (AnsE R)) n (fun _ => .val .undef) u (fun _ => .gone 0) w H) : RunsE P pol f args H R := by
  subst hn
  have hl' := Nat.le_of_ble_eq_true hl
  rw [Bool.or_eq_false_iff] at hk
  have e1 := entry_mk (z := SV.val .undef) (m := fn.ntmps - args.length) hu
  have e2 := entry_mk (z := TC.gone 0) (m := fn.ntmps - args.length) hw
  have l1 : (argSlots 0 args).length = args.length := argSlots_length 0 args
  have l2 : (argTab args).length = args.length := argTab_length args
  rw [l1, show args.length + (fn.ntmps - args.length) = fn.ntmps by omega] at e1
  rw [l2, show args.length + (fn.ntmps - args.length) = fn.ntmps by omega] at e2
  have h' := h.h
  rw [← e1, ← e2] at h'
  obtain ⟨r, b, H', h1, rfl, h3⟩ := Runs.of_we (fn := fn) (args := args) he hf hb (by rw [hk.1, hk.2, Bool.or_false, Bool.false_or]; exact decide_eq_false (by omega)) h'
  exact ⟨r, H', h1, h3⟩
theorem left_plainE {P : Program} {pol : Pol} {f : FuncId} {fn : Func} {args : List RV} {R : List RV → Hp → Prop} {fr : Fr} {H : Hp} {vs : List SV} {us : List VV} {e : VEx} (he : e = .normal ∨ e = .ret) (hr : fn.results.toList.mapM (resultV P fr) = some vs) (ho : vs.mapM plainS = some us)
    (hm : args.all (fun a => !isOwned a) = true) (h : R (us.map .val) H) : Left P pol f fn args (AnsE R) e fr H := by
  refine ⟨he, us.map .val, fr.tab, [], fr.tab, ?_, (backs_plain hm).1, (backs_plain hm).2, rfl, h⟩
  unfold resultsV
  rw [hr]
  cases pol.frz f with
  | false => exact retsV_plain ho
  | true =>
    show (outAll fr.tab vs).map _ = _
    rw [outAll_plain (out_of_plain ho)]; rfl
theorem Wl.retE {P : Program} {pol : Pol} {f : FuncId} {fn : Func} {args r : List RV} {R : List RV → Hp → Prop} {H : Hp} {n : Nat} {x : Nat → SV} {u : List (Nat × SV)} {y : Nat → TC} {w : List (Nat × TC)} {vs : List SV} (h : R r H) (hr : ResX P n x u y w fn.results.toList vs := by repeat' (first | exact ResX.nil | apply ResX.tmp | apply ResX.cell | rfl)) (ho : PlainX vs r := by repeat' (first | exact PlainX.nil | apply PlainX.cons))
    (hm : args.all (fun a => !isOwned a) = true := by rfl) : QX (Left P pol f fn args (AnsE R)) .ret n x u y w H := by
  obtain ⟨us, e, ho'⟩ := ho.told
  subst e
  exact ⟨left_plainE (.inr rfl) hr.told ho' hm h⟩
theorem Wl.normalE {P : Program} {pol : Pol} {f : FuncId} {fn : Func} {args r : List RV} {R : List RV → Hp → Prop} {H : Hp} {n : Nat} {x : Nat → SV} {u : List (Nat × SV)} {y : Nat → TC} {w : List (Nat × TC)} {vs : List SV} (h : R r H) (hr : ResX P n x u y w fn.results.toList vs := by repeat' (first | exact ResX.nil | apply ResX.tmp | apply ResX.cell | rfl)) (ho : PlainX vs r := by repeat' (first | exact PlainX.nil | apply PlainX.cons))
    (hm : args.all (fun a => !isOwned a) = true := by rfl) : QX (Left P pol f fn args (AnsE R)) .normal n x u y w H := by
  obtain ⟨us, e, ho'⟩ := ho.told
  subst e
  exact ⟨left_plainE (.inl rfl) hr.told ho' hm h⟩

theorem Wl.retRE {P : Program} {pol : Pol} {f : FuncId} {fn : Func} {args r : List RV} {R : List RV → Hp → Prop} {H : Hp} {n : Nat} {x : Nat → SV} {u : List (Nat × SV)} {y : Nat → TC} {w w' : List (Nat × TC)} {vs : List SV} (h : R r H) (hr : ResX P n x u y w fn.results.toList vs := by repeat' (first | exact ResX.nil | apply ResX.tmp | apply ResX.cell | rfl))
    (ho : RetX n y w vs r w' := by repeat' (first | exact RetX.nil | apply RetX.val | apply RetX.full | apply RetX.own | rfl | (simp; done) | (simp; omega))) (hm : args.all (fun a => !isOwned a) = true := by rfl) (hz : pol.frz f = false := by rfl) : QX (Left P pol f fn args (AnsE R)) .ret n x u y w H := by
  refine ⟨.inr rfl, r, lay n y w', [], lay n y w', ?_, (backs_plain hm).1, (backs_plain hm).2, rfl, h⟩
  unfold resultsV
  rw [hr.told, hz]
  exact ho.told
theorem Wl.retFE {P : Program} {pol : Pol} {f : FuncId} {fn : Func} {args : List RV} {R : List RV → Hp → Prop} {H : Hp} {n : Nat} {x : Nat → SV} {u : List (Nat × SV)} {y : Nat → TC} {w w' : List (Nat × TC)} {vs : List SV} {us : List VV} (h : R (us.map .val) H) (hr : ResX P n x u y w fn.results.toList vs := by repeat' (first | exact ResX.nil | apply ResX.tmp | apply ResX.cell | rfl))
    (ho : ArgsX n y w vs us w' := by repeat' (first | exact ArgsX.nil | exact OutsX.nil | apply ArgsX.st | apply ArgsX.one | apply OutsX.cons | exact OutX.val | exact OutX.full | apply OutX.own | rfl | (simp; done) | (simp; omega)))
    (hm : args.all (fun a => !isOwned a) = true := by rfl) (hz : pol.frz f = true := by rfl) : QX (Left P pol f fn args (AnsE R)) .ret n x u y w H := by
  refine ⟨.inr rfl, us.map .val, lay n y w', [], lay n y w', ?_, (backs_plain hm).1, (backs_plain hm).2, rfl, h⟩
  unfold resultsV
  rw [hr.told, hz]
  show (outAll (lay n y w) vs).map _ = _
  rw [ho.all]; rfl

theorem lay_tell {α : Type} {n : Nat} {x : Nat → α} {u : List (Nat × α)} (j : Nat) (h : look u j = none) : lay n x ((j, x j) :: u) = lay n x u := by
  apply List.ext_getElem?
  intro i
  rw [mk_get, mk_get]
  simp only [look]
  cases hb : Nat.beq j i with
  | false => rw [cond_false]
  | true =>
    have := Nat.eq_of_beq_eq_true hb
    subst this
    rw [h, cond_true]; rfl
/-- a row of the table that was not written yet is told -/
theorem Wx.tellT {P : Program} {pol : Pol} {f : FuncId} {c : Code} {Q : PostV} {n : Nat} {x : Nat → SV} {u : List (Nat × SV)} {y : Nat → TC} {w : List (Nat × TC)} {H : Hp} (j : Nat) (t : TC) (h : EX P pol f c Q n x u y ((j, t) :: w) H) (hj : look w j = none := by rfl) (ht : y j = t := by rfl) : EX P pol f c Q n x u y w H := by
  subst ht
  have := h.h
  rw [lay_tell j hj] at this
  exact ⟨this⟩

section
variable {P : Program} {pol : Pol} {f : FuncId} {ops : Array Oper} {Q : PostV} {K : Fr → Hp → Prop} {n : Nat} {x : Nat → SV} {u : List (Nat × SV)} {y : Nat → TC} {w w' : List (Nat × TC)} {H H' : Hp} {l : List Oper} {d : Tmp} {ty : TypeId} {pos : String} {after : Array Edge} {g : Option (Nat × Bool)} {v v' : SV}
variable {t e ut : TypeId} {p q i : Operand} {o m sz nn : Nat} {es : List VV}
/-- a cut of an object's row, from its start -/
theorem Wo.cutH {hi : Operand} {k : IntKind} {j : Int} (h : WX P pol f ops l K n x ((d, .val (.row o 0 j.toNat sz)) :: u) y w H) (hx : evX n x u p = some (.val (.row o 0 nn sz)) := by rfl) (hi2 : evX n x u hi = some (.val (.int k j)) := by rfl) (hb : 0 ≤ j ∧ j ≤ nn := by constructor <;> omega) (ht : P.underlying t = some (.slice e) := by rfl) (hs : sizeT P e = some sz := by rfl)
    (hw : openX ops g n x u = true := by rfl) : WX P pol f ops (⟨some d, .slice t p none (some hi) none, ty, pos, after, g⟩ :: l) K n x u y w H := by
  refine WX.told (fun call => ?_) h hw
  simp only [stepV, pureV, hx, opt, hi2, Option.bind_eq_bind, Option.bind_some, Option.map_some, sliceV, ht, hs, cut_hi hb, if_true, Nat.add_zero, Nat.sub_zero, Nat.zero_mul]
/-- one element is appended to an object's row: it goes on as another object -/
theorem Wo.app1H {α : Type} {enc : α → VV} {la : List α} {a : α} {c : Call} {ti : TypeInfo} {o2 g2 : Nat} {lk2 : Bool} (hO : H.objs o = some (.row (la.map enc) sz)) (hH : (H.set o none).put (.row ((la.take nn ++ [a]).map enc) sz) = H') (h : WX P pol f ops l K n x ((d, .val (.row H.next 0 (nn + 1) sz)) :: u) y w H') (hc : c.callee = .builtin .append := by rfl) (ha : c.args.toList = [p, q] := by rfl) (hct : c.argTypes.toList = [t, t] := by rfl) (hx : evX n x u p = some (.val (.row o 0 nn sz)) := by rfl)
    (hy : evX n x u q = some (.own o2 g2 0 1 sz) := by rfl) (hb2 : tgX n y w o2 = .row g2 [enc a] sz lk2 := by rfl) (he : elemOfSlice P t = some e := by rfl) (hs : sizeT P e = some sz := by rfl) (hi' : P.info? e = some ti := by rfl) (hzz : zeroOk P e sz = true := by rfl)
    (hk : (Nat.blt 0 sz && Nat.ble ti.bytes 65536) = true := by rfl) (hnew : ∀ a, okElem sz (enc a) = true := by intro _; rfl) (hm : nn ≤ la.length := by omega) (hr : nn + 1 ≤ 1073741824 := by omega) (hw : openX ops g n x u = true := by rfl) :
    WX P pol f ops (⟨some d, .call c, ty, pos, after, g⟩ :: l) K n x u y w H := by
  obtain ⟨ce, ar, at'⟩ := c
  simp only at hc ha hct
  subst hc; subst hH
  simp only [Bool.and_eq_true] at hk
  obtain ⟨c3, c4⟩ := hk
  have c3 := blt_lt c3; have c4 := Nat.le_of_ble_eq_true c4
  have hrr : roomOk (nn + 1) ti.bytes = true := by
    simp only [roomOk, Bool.and_eq_true, decide_eq_true_eq]
    exact ⟨Nat.le_trans (Nat.mul_le_mul hr c4) (by decide), by omega⟩
  have hd : addedH (lay n y w) H (.own o2 g2 0 1 sz) = some [enc a] := by
    rw [added_own (off2 := 0) (m2 := 1) (tab := lay n y w) (H := H) (by rw [tget_mk]; exact hb2) (by simp)]; rfl
  refine WX.toldH (fun call => ?_) h hw
  simp only [stepV, ha, hct, if_true, appendH, hx, hy, he, hs, hi', hd, hO, List.all_cons, List.all_nil, hnew, hzz, List.isEmpty_cons, List.length_singleton, Bool.and_self, and_self, Bool.false_eq_true, if_false, Nat.zero_mod, Nat.zero_div, Nat.zero_add, List.length_map, hm, hrr, if_true, List.drop_zero, List.map_append, List.map_take, List.map_cons, List.map_nil]
/-- a plain value as an interface value -/
theorem Wo.mkI {a : VV} {td : TypeDesc} (hu : P.underlying t = some td) (hni : ∀ s, td ≠ .interface s) (h : WX P pol f ops l K n x ((d, .val (.iface t a)) :: u) y w H) (hx : evX n x u p = some (.val a) := by rfl) (hw : openX ops g n x u = true := by rfl) :
    WX P pol f ops (⟨some d, .makeInterface t p, ty, pos, after, g⟩ :: l) K n x u y w H := by
  have h0 : outT (lay n y w) (.val a) = some (a, lay n y w) := rfl
  refine WX.told (fun call => ?_) h hw
  cases td <;> first | (exact absurd rfl (hni _)) | simp only [stepV, hu, hx, h0]
/-- a call that sees objects; its answer: a row of one's own, and a plain value -/
theorem Wo.callIO {c : Call} {fid : FuncId} {first cap us : List VV} {as : List SV} {vs0 : List RV} {b : VV} (hR : Runs P pol fid vs0 H ([.own es sz, .val b], [], H')) (h : ∀ g2, WX P pol f ops l K n x ((d, .tup [.own d g2 0 es.length sz, .val b]) :: u) y ((d, .row g2 es sz false) :: w) H') {fo : Operand} (hcal : c.callee = .value fo := by rfl) (hf : evX n x u fo = some (.val (.func fid first cap)) := by rfl) (ha : (c.args.toList.map (evX n x u)).mapM id = some as := by rfl)
    (ho : as.mapM plainS = some us := by rfl) (he : first.map .val ++ us.map .val ++ cap.map .val = vs0 := by rfl) (hp : pol.pure fid = false := by rfl) (hd : Nat.blt d n = true := by rfl) (hw : openX ops g n x u = true := by rfl) :
    WX P pol f ops (⟨some d, .call c, ty, pos, after, g⟩ :: l) K n x u y w H := by
  subst he
  obtain ⟨k, hk⟩ := hR
  have hd' := blt_lt hd
  have e0 : (lay n y w).set d (.row ((tget (lay n y w) d).gen + 1) es sz false) = lay n y ((d, .row ((tget (lay n y w) d).gen + 1) es sz false) :: w) := mk_set
  have h1 := h ((tget (lay n y w) d).gen + 1)
  refine WX.calledH ⟨k, fun call e => ?_⟩ hw h1
  subst e
  obtain ⟨ce, ar, ct⟩ := c
  simp only at hcal ha
  subst hcal
  have hk' : callV P pol k fid (first.map .val ++ us.map .val ++ cap.map .val) H = some ([.own es sz, .val b], [], H') := hk
  have hb : ∀ tab : List TC, backV tab [] [] = some tab := fun _ => rfl
  have hv : ofRV (lay n y w) (d :: pol.keys f d) [.own es sz, .val b] = some (.tup [.own d ((tget (lay n y w) d).gen + 1) 0 es.length sz, .val b], lay n y ((d, .row ((tget (lay n y w) d).gen + 1) es sz false) :: w)) := by
    simp only [ofRV, ofRVs, ofRV1, ofCell, mk_length, hd', if_true, e0]
  simp only [stepV, callsV, hf, ha, outArgs_plain ho, keeps_eq hk' hp, hp, hk', Bool.false_and, Bool.false_eq_true, if_false, hb, Option.toList_some, List.singleton_append, Option.getD_some, hv, List.all_nil, List.map_nil, nodupN, Bool.and_self, Bool.not_true]
/-- a cell of an element of an object's row is written -/
theorem Wo.storeHf {α : Type} {enc : α → VV} {la : List α} {a b : α} {v : VV} {sz pl off fo : Nat} (hO : H.objs o = some (.row (la.map enc) sz)) (ha : la[pl]? = some a) (hH : H.set o (some (.row ((la.set pl b).map enc) sz)) = H') (h : WX P pol f ops l K n x u y w H') (hx : evX n x u p = some (.val (.ptr o off)) := by rfl) (hy : evX n x u q = some (.val v) := by rfl)
    (hoff : off = pl * sz + fo := by first | rfl | omega) (hfo : fo < sz := by decide) (hs : sizeT P t = some v.cells.length := by rfl) (hc : svCells (.val v) = v.cells.map .val := by rfl) (h1 : (svCells (.val v)).all oneCell = true := by rfl) (h2 : v.cells.all oneVV = true := by rfl) (h3 : v.cells.isEmpty = false := by rfl)
    (hse : setElem (enc a) fo v.cells = some (enc b) := by rfl) (hw : openX ops g n x u = true := by rfl) : WX P pol f ops (⟨none, .store t p q, ty, pos, after, g⟩ :: l) K n x u y w H := by
  subst hH; subst hoff
  refine WX.muteH (v := .val .undef) (fun call => ?_) h hw
  have e1 : (pl * sz + fo) / sz = pl := by rw [Nat.mul_comm, Nat.mul_add_div (by omega), Nat.div_eq_of_lt hfo, Nat.add_zero]
  have e2 : (pl * sz + fo) % sz = fo := by rw [Nat.mul_comm, Nat.mul_add_mod, Nat.mod_eq_of_lt hfo]
  simp only [stepV, hx, hy, h1, if_true]
  rw [hc, moveAll_vals]
  simp only [storeH, hs, h2, hO, h3, and_self, if_true, Bool.false_eq_true, if_false, e1, e2, List.getElem?_map, ha, Option.map_some, hse, List.map_set]
/-- a new object that holds plain cells -/
theorem Wo.boxH {b : VV} (hH : H.put (.cells b.cells) = H') (h : WX P pol f ops l K n x ((d, .val (.ptr H.next 0)) :: u) y w H') (hx : evX n x u p = some (.val b) := by rfl) (hoh : onHeap (pol.keys f) d = true := by rfl) (hc : svCells (.val b) = b.cells.map .val := by rfl) (h1 : (svCells (.val b)).all oneCell = true := by rfl)
    (hw : openX ops g n x u = true := by rfl) : WX P pol f ops (⟨some d, .box t p, ty, pos, after, g⟩ :: l) K n x u y w H := by
  subst hH
  refine WX.toldH (fun call => ?_) h hw
  simp only [stepV, hx, hoh, h1, if_true]
  rw [hc, moveAll_vals]
/-- what an object's cells hold is written anew -/
theorem Wo.storeHc {cs : List VV} {b : VV} {off : Nat} (hO : H.objs o = some (.cells cs)) (hH : H.set o (some (.cells (putCells cs off b.cells))) = H') (h : WX P pol f ops l K n x u y w H') (hx : evX n x u p = some (.val (.ptr o off)) := by rfl) (hy : evX n x u q = some (.val b) := by rfl)
    (hs : sizeT P t = some b.cells.length := by rfl) (hc : svCells (.val b) = b.cells.map .val := by rfl) (h1 : (svCells (.val b)).all oneCell = true := by rfl) (h2 : b.cells.all oneVV = true := by rfl) (hl : Nat.ble (off + b.cells.length) cs.length = true := by rfl) (hw : openX ops g n x u = true := by rfl) :
    WX P pol f ops (⟨none, .store t p q, ty, pos, after, g⟩ :: l) K n x u y w H := by
  subst hH
  refine WX.muteH (v := .val .undef) (fun call => ?_) h hw
  have hl := Nat.le_of_ble_eq_true hl
  simp only [stepV, hx, hy, h1, if_true]
  rw [hc, moveAll_vals]
  simp only [storeH, hs, h2, hO, hl, and_self, if_true, Option.map_some]
/-- differences, halves: told as one likes -/
theorem Wo.subTo {a b c : Int} (hc : a - b = c) (h : WX P pol f ops l K n x ((d, .val (.int .i64 c)) :: u) y w H) (hx : evX n x u p = some (.val (.int .i64 a)) := by rfl) (hy : evX n x u q = some (.val (.int .i64 b)) := by rfl) (hb : -9223372036854775808 ≤ a - b ∧ a - b ≤ 9223372036854775807 := by constructor <;> omega)
    (hw : openX ops g n x u = true := by rfl) : WX P pol f ops (⟨some d, .binOp .sub t p q ut, ty, pos, after, g⟩ :: l) K n x u y w H := by
  subst hc; exact Wo.sub h hx hy hb hw
theorem Wo.quoTo {a b c : Int} (hc : a.tdiv b = c) (h : WX P pol f ops l K n x ((d, .val (.int .i64 c)) :: u) y w H) (hx : evX n x u p = some (.val (.int .i64 a)) := by rfl) (hy : evX n x u q = some (.val (.int .i64 b)) := by rfl) (h0 : ¬ b = 0 := by omega) (hb : -9223372036854775808 ≤ c ∧ c ≤ 9223372036854775807 := by constructor <;> omega)
    (hw : openX ops g n x u = true := by rfl) : WX P pol f ops (⟨some d, .binOp .quo t p q ut, ty, pos, after, g⟩ :: l) K n x u y w H := by
  subst hc; exact Wo.quo h hx hy h0 hb hw
/-- an object's row is copied behind an empty slice -/
theorem Wo.appRow {α : Type} {enc : α → VV} {la : List α} {c : Call} {ti : TypeInfo} (hO : H.objs o = some (.row (la.map enc) sz)) (h : ∀ g2, 0 < nn → WX P pol f ops l K n x ((d, .own d g2 0 nn sz) :: u) y ((d, .row g2 ((la.take nn).map enc) sz false) :: w) H) (h0 : nn = 0 → WX P pol f ops l K n x ((d, .full []) :: u) y w H) (hc : c.callee = .builtin .append := by rfl) (ha : c.args.toList = [p, q] := by rfl) (hct : c.argTypes.toList = [t, t] := by rfl) (hx : evX n x u p = some (.full []) := by rfl)
    (hy : evX n x u q = some (.val (.row o 0 nn sz)) := by rfl) (he : elemOfSlice P t = some e := by rfl) (hs : sizeT P e = some sz := by rfl) (hi' : P.info? e = some ti := by rfl) (hzz : zeroOk P e sz = true := by rfl)
    (hk : (Nat.blt d n && Nat.blt 0 sz && Nat.ble ti.bytes 65536) = true := by rfl) (hnew : ∀ a, okElem sz (enc a) = true := by intro _; rfl) (hm : nn ≤ la.length := by omega) (hr : nn ≤ 1073741824 := by omega) (hw : openX ops g n x u = true := by rfl) :
    WX P pol f ops (⟨some d, .call c, ty, pos, after, g⟩ :: l) K n x u y w H := by
  obtain ⟨ce, ar, at'⟩ := c
  simp only at hc ha hct
  subst hc
  simp only [Bool.and_eq_true] at hk
  obtain ⟨⟨c1, c3⟩, c4⟩ := hk
  have c1 := blt_lt c1; have c3 := blt_lt c3; have c4 := Nat.le_of_ble_eq_true c4
  have hrr : roomOk nn ti.bytes = true := by
    simp only [roomOk, Bool.and_eq_true, decide_eq_true_eq]
    exact ⟨Nat.le_trans (Nat.mul_le_mul hr c4) (by decide), by omega⟩
  have hd : addedH (lay n y w) H (.val (.row o 0 nn sz)) = some ((la.take nn).map enc) := by
    simp only [addedH, hO, Nat.zero_mod, Nat.zero_div, Nat.zero_add, List.length_map, hm, and_self, if_true, List.drop_zero, List.map_take]
  have hall : ((la.take nn).map enc).all (okElem sz) = true := List.all_eq_true.2 fun v hv => by obtain ⟨a, _, rfl⟩ := List.mem_map.1 hv; exact hnew a
  have hlen : ((la.take nn).map enc).length = nn := by rw [List.length_map, List.length_take, Nat.min_eq_left hm]
  rcases Nat.eq_zero_or_pos nn with h00 | hp
  · subst h00
    exact WX.told (fun call => by simp only [stepV, ha, hct, if_true, appendV, hx, hy, he, hs, hi', hd, mk_length, c1, c3, hall, hzz, and_self, List.all_nil, List.take_zero, List.map_nil, List.isEmpty_nil]) (h0 rfl) hw
  · have hne : ((la.take nn).map enc).isEmpty = false := by
      rw [← Bool.not_eq_true, List.isEmpty_iff]
      intro h9; rw [h9] at hlen; simp at hlen; omega
    exact WX.told (fun call => by simp only [stepV, ha, hct, if_true, appendV, hx, hy, he, hs, hi', hd, mk_length, c1, c3, hall, hzz, and_self, List.all_nil, hne, Bool.false_eq_true, if_false, List.length_nil, hlen, Nat.zero_add, hrr, List.nil_append, mk_set]) (h ((tget (lay n y w) d).gen + 1) hp) hw
end
end Go.Vi
