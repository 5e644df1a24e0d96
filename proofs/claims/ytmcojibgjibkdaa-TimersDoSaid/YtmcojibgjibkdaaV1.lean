/-
  Slices that are built or made; interfaces; function values.
-/
import Derived.Test.YtmcojibgjibkdaaV0
import Derived.IntWalk
import Derived.MapKept
import Derived.Orders
import Derived.LoopN
import Derived.Scope
import Derived.Laws.Sem
namespace Go.Vi
set_option linter.unusedVariables false
set_option linter.unusedSimpArgs false

section
variable {P : Program} {E : En} {gh : Gh} {tab : List TC} {H : Hp} {w : World}

/-- some cells are these elements -/
structure RowRel (gh : Gh) (nx : Nat) (w : World) (es : List VV) (sz : Nat) (c : List Value) : Prop where
  len : c.length = es.length * sz
  size : ∀ (i : Nat) (e : VV), es[i]? = some e → e.cells.length = sz
  rel : ∀ (i : Nat) (e : VV) (j : Nat) (x : VV) (v : Value), es[i]? = some e → e.cells[j]? = some x → c[i * sz + j]? = some v → VR gh nx w x v

theorem mul_add_inj {i i' j j' sz : Nat} (hj : j < sz) (hj' : j' < sz) (h : i * sz + j = i' * sz + j') : i = i' ∧ j = j' := by
  have a1 : (i * sz + j) / sz = i := by rw [Nat.mul_comm, Nat.mul_add_div (by omega), Nat.div_eq_of_lt hj]; omega
  have a2 : (i' * sz + j') / sz = i' := by rw [Nat.mul_comm, Nat.mul_add_div (by omega), Nat.div_eq_of_lt hj']; omega
  have : i = i' := by rw [← a1, h, a2]
  subst this
  exact ⟨rfl, by omega⟩

theorem RowRel.set {nx : Nat} {es : List VV} {sz : Nat} {c : List Value} (h : RowRel gh nx w es sz c) {i : Nat} {v : VV} {u : Value} (hi : i < es.length) (hv : VR gh nx w v u)
    (hs : v.cells.length = sz) : RowRel gh nx w (es.set i v) sz (putCells c (i * sz) u.cells.toList) := by
  have hc := hv.cells
  have hul := hc.len
  have hle : (i + 1) * sz ≤ es.length * sz := Nat.mul_le_mul_right _ hi
  rw [Nat.add_mul, Nat.one_mul] at hle
  have hl := h.len
  refine ⟨by rw [putCells_len]; simp [hl], fun k e hk => ?_, fun k e j x y hk hj hy => ?_⟩
  · rw [List.getElem?_set] at hk
    split at hk
    · simp [hi] at hk; subst hk; exact hs
    · exact h.size k e hk
  · have hjl : j < e.cells.length := (List.getElem?_eq_some_iff.1 hj).1
    rw [putCells_get _ _ _ _ (by omega)] at hy
    rw [List.getElem?_set] at hk
    split at hk
    · rename_i hik
      subst hik
      simp [hi] at hk; subst hk
      rw [if_pos (by omega)] at hy
      have : i * sz + j - i * sz = j := by omega
      rw [this] at hy
      exact hc.rel j x y hj hy
    · rename_i hik
      have he := h.size k e hk
      rw [if_neg] at hy
      · exact h.rel k e j x y hk hj hy
      · rintro ⟨a, b⟩
        rw [hul, hs] at b
        have : k * sz + j = i * sz + (k * sz + j - i * sz) := by omega
        have := mul_add_inj (by omega) (by omega) this
        exact hik this.1.symm

theorem fillE_run {nx : Nat} {sz : Nat} : ∀ {qs : List (Nat × VV)} {ps : List (Nat × Value)} {es es' : List VV} {c : Array Value},
    RowRel gh nx w es sz c.toList → ps.length = qs.length →
    (∀ (i : Nat) (q : Nat × VV) (p : Nat × Value), qs[i]? = some q → ps[i]? = some p → p.1 = q.1 ∧ VR gh nx w q.2 p.2) →
    fillE es sz qs = some es' → ∃ c', Instr.fill (fun i => some (i * sz, sz)) c ps = some c' ∧ RowRel gh nx w es' sz c'.toList ∧ es'.length = es.length := by
  intro qs
  induction qs with
  | nil =>
    intro ps es es' c h hl hq hf
    have : ps = [] := List.eq_nil_of_length_eq_zero (by simpa using hl)
    subst this
    simp [fillE] at hf; subst hf
    exact ⟨c, rfl, h, rfl⟩
  | cons q qs ih =>
    intro ps es es' c h hl hq hf
    cases ps with
    | nil => simp at hl
    | cons p ps =>
      obtain ⟨i, v⟩ := q
      obtain ⟨i', u⟩ := p
      simp only [fillE] at hf
      split at hf
      · rename_i hb
        obtain ⟨b1, b2⟩ := hb
        obtain ⟨he, hv⟩ := hq 0 _ _ rfl rfl
        simp only at he hv
        subst he
        have hc := hv.cells
        have hul := hc.len
        simp at hul
        have hle : (i' + 1) * sz ≤ es.length * sz := Nat.mul_le_mul_right _ b2
        rw [Nat.add_mul, Nat.one_mul] at hle
        have hl' := h.len
        simp at hl'
        obtain ⟨c', e1, e2, e3⟩ := ih (ps := ps) (c := (putCells c.toList (i' * sz) u.cells.toList).toArray) (by simpa using h.set b2 hv b1) (by simpa using hl)
          (fun i q p a b => hq (i + 1) q p a b) hf
        refine ⟨c', ?_, e2, by simpa using e3⟩
        simp only [Instr.fill]
        rw [if_neg (by simp; constructor <;> omega)]
        rw [← e1, ← fill_cells]
      · simp at hf

theorem zeros_rel {nx : Nat} {z : VV} {v : Value} (h : VR gh nx w z v) {sz : Nat} (hs : z.cells.length = sz) (hsz : 0 < sz) (n : Nat) :
    RowRel gh nx w (List.replicate n z) sz ((Array.range (n * sz)).map (v.cells[· % v.cells.size]!)).toList := by
  have hc := h.cells
  have hl := hc.len
  simp at hl
  refine ⟨by simp, fun i e hi => ?_, fun i e j x u hi hj hu => ?_⟩
  · rw [List.getElem?_replicate] at hi
    split at hi
    · simp at hi; subst hi; exact hs
    · simp at hi
  · rw [List.getElem?_replicate] at hi
    split at hi
    · rename_i hin
      simp at hi; subst hi
      have hjl : j < sz := by have := (List.getElem?_eq_some_iff.1 hj).1; omega
      have hle : (i + 1) * sz ≤ n * sz := Nat.mul_le_mul_right _ hin
      rw [Nat.add_mul, Nat.one_mul] at hle
      have hm : (i * sz + j) % v.cells.size = j := by rw [hl, hs, Nat.mul_comm, Nat.mul_add_mod, Nat.mod_eq_of_lt hjl]
      have hjv : j < v.cells.size := by omega
      simp [Array.getElem?_range, show i * sz + j < n * sz by omega, hm] at hu
      subst hu
      refine hc.rel j x _ hj ?_
      simp [hjv]
    · simp at hi

theorem outAll_len {l : List SV} : ∀ {tab : List TC} {us : List VV} {tab' : List TC}, outAll tab l = some (us, tab') → us.length = l.length := by
  induction l with
  | nil => intro tab us tab' h; simp [outAll] at h; simp [h.1.symm]
  | cons x l ih =>
    intro tab us tab' h
    simp only [outAll] at h
    split at h
    · split at h
      · rename_i h2
        simp at h
        rw [← h.1]
        simp [ih h2]
      · simp at h
    · simp at h

theorem buildSlice_run (M : Mem E gh tab H w) {ρ : Operand → Option SV} {ρ' : Operand → Value} (hρ : ∀ x s, ρ x = some s → SRel gh tab H.next w s (ρ' x)) {o : Oper} {t e : TypeId} {len sz : Nat}
    {parts : Array (Nat × Operand)} {z : VV} {ps : List (Nat × SV)} {vs es : List VV} {tab' : List TC} {d : Nat} (ho : o.op = .buildSlice t len parts)
    (he : elemOfSlice P t = some e) (hp : partsOf ρ parts.toList = some ps) (hsz : sizeT P e = some sz) (hz : zeroT P e = some z) (hv : outAll tab (ps.map (·.2)) = some (vs, tab'))
    (hc : ¬ (sz = 0 ∨ len * sz > 16777216 ∨ z.cells.length ≠ sz)) (hf : fillE (List.replicate len z) sz ((ps.map (·.1)).zip vs) = some es) :
    (len = 0 → Stepped P E gh tab H w ρ' o ⟨.full es, tab', H⟩) ∧
    (len ≠ 0 → d < tab'.length → Stepped P E gh tab H w ρ' o ⟨.own d ((tget tab' d).gen + 1) 0 len sz, tab'.set d (.row ((tget tab' d).gen + 1) es sz false), H⟩) := by
  obtain ⟨v, hr, hzv⟩ := zero_rel hz
  obtain ⟨p1, p2⟩ := partsOf_some hp
  have hu : P.underlying t = some (.slice e) := by
    unfold elemOfSlice at he
    split at he
    · simp at he; subst he; assumption
    · simp at he
  have hss : SsRel gh tab H.next w (ps.map (·.2)) (parts.toList.map fun (x : Nat × Operand) => ρ' x.2) := ⟨by simp [p1], fun i x u hx hu => by
    simp only [List.getElem?_map, Option.map_eq_some_iff] at hx hu
    obtain ⟨a, ha, rfl⟩ := hx
    obtain ⟨b, hb, rfl⟩ := hu
    exact hρ _ _ (p2 i b a hb ha).2⟩
  obtain ⟨gh1, K, r1⟩ := outAll_run M hss hv
  have hvl := outAll_len hv
  have h1 : ¬ (len * sz > 2 ^ 24) := fun h => hc (.inr (.inl h))
  have h2 : z.cells.length = sz := Classical.byContradiction fun h => hc (.inr (.inr h))
  have h3 : 0 < sz := Nat.pos_of_ne_zero fun h => hc (.inl h)
  have hzr := zeros_rel (hzv w gh1 H.next) h2 h3 len
  have hvc : v.cells.size = sz := by have := (hzv w gh1 H.next).cells.len; simp at this; omega
  obtain ⟨c', f1, f2, f3⟩ := fillE_run (ps := parts.toList.map fun (x : Nat × Operand) => (x.1, ρ' x.2)) hzr (by simp [hvl, p1]) (fun i q p hq hpp => by
    simp only [List.getElem?_map, Option.map_eq_some_iff] at hpp
    obtain ⟨a, ha, rfl⟩ := hpp
    rw [List.getElem?_zip_eq_some] at hq
    obtain ⟨hq1, hq2⟩ := hq
    simp only [List.getElem?_map, Option.map_eq_some_iff] at hq1
    obtain ⟨b, hb, hb'⟩ := hq1
    obtain ⟨e1, e2⟩ := p2 i a b ha hb
    refine ⟨by rw [← hb', e1], r1.rel i _ _ hq2 (by simp [ha])⟩) hf
  have hpa : (parts.map fun (x : Nat × Operand) => (x.1, ρ' x.2)).toList = parts.toList.map fun (x : Nat × Operand) => (x.1, ρ' x.2) := by simp
  have hel : es.length = len := by simpa using f3
  have hrun : (execOp ρ' o).run P w = .ok (.value (.slice (some ⟨w.heap.size, 0, none⟩) len len)) (w.alloc (.cells c' e)) := by
    simp only [execOp, ho, Instr.buildSlice, Sem.run_bind, run_underlying hu, Result.andThen_ok, run_sizeOf hsz, if_neg h1]
    by_cases hl0 : len * sz = 0
    · have hlen : len = 0 := by rcases Nat.mul_eq_zero.1 hl0 with h | h; exact h; omega
      subst hlen
      simp only [Nat.zero_mul, if_true, Sem.run_bind, Sem.run_pure, Result.andThen_ok, hpa]
      simp only [Nat.zero_mul] at f1
      have : (Array.range 0).map (fun x => (#[] : Array Value)[x % (#[] : Array Value).size]!) = (Array.range 0).map (fun x => v.cells[x % v.cells.size]!) := by simp
      rw [this, f1]
      simp only [newRow, run_newObj, Sem.run_bind, Result.andThen_ok, Sem.run_pure]
      rfl
    · simp only [if_neg hl0, Sem.run_bind, hr, Result.andThen_ok, Sem.run_pure, hpa, f1]
      simp only [newRow, run_newObj, Sem.run_bind, Result.andThen_ok, Sem.run_pure]
      rfl
  refine ⟨fun hl0 => ?_, fun hl0 hd => ?_⟩
  · subst hl0
    have : es = [] := List.eq_nil_of_length_eq_zero hel
    subst this
    obtain ⟨T, M'⟩ := K.mem.garbage (.cells c' e)
    refine ⟨gh1, _, _, .inl hrun, K.goes.trans T, M', .full [] _ _ ?_⟩
    exact .lst [] _ 0 1 0 (fun _ _ => undef) (by simp) (by simp) (by simp) (by simp)
  · obtain ⟨gh2, T2, M2, S2⟩ := fresh_row K.mem hd (es := es) (sz := sz) (c := c') h3 (by have := f2.len; simp at this; omega) f2.size
      (fun i e j x v a b c => f2.rel i e j x v a b (by simpa using c)) e false (n := len) (cap := len) (Nat.le_refl _) (by have := f2.len; simp at this; rw [hel] at this; omega)
    exact ⟨gh2, _, _, .inl hrun, K.goes.trans T2, M2, S2⟩

theorem makeInterface_run (M : Mem E gh tab H w) {ρ : Operand → Option SV} {ρ' : Operand → Value} (hρ : ∀ x s, ρ x = some s → SRel gh tab H.next w s (ρ' x)) {o : Oper} {t : TypeId} {x : Operand}
    {a : SV} {d : TypeDesc} {v : VV} {tab' : List TC} (ho : o.op = .makeInterface t x) (hu : P.underlying t = some d) (hd : ∀ ms, d ≠ .interface ms) (hx : ρ x = some a) (hv : outT tab a = some (v, tab')) :
    Stepped P E gh tab H w ρ' o ⟨.val (.iface t v), tab', H⟩ := by
  obtain ⟨gh1, K, r1⟩ := outT_run M (hρ x a hx) hv
  refine ⟨gh1, .iface t (ρ' x), w, .inl ?_, K.goes, K.mem, .val _ _ (.iface t v _ r1)⟩
  simp only [execOp, ho, Instr.makeInterface, Sem.run_bind, run_underlying hu, Result.andThen_ok]
  cases d <;> first | rfl | (exact absurd rfl (hd _))

theorem makeFunc_run (M : Mem E gh tab H w) {ρ : Operand → Option SV} {ρ' : Operand → Value} (hρ : ∀ x s, ρ x = some s → SRel gh tab H.next w s (ρ' x)) {o : Oper} {f : FuncId}
    {first captured : Array Operand} {fs cs : List SV} {us ws : List VV} {tab' tab'' : List TC} (ho : o.op = .makeFunc (.func f) first captured) (hf : first.toList.mapM ρ = some fs)
    (hc : captured.toList.mapM ρ = some cs) (h1 : outAll tab fs = some (us, tab')) (h2 : outAll tab' cs = some (ws, tab'')) : Stepped P E gh tab H w ρ' o ⟨.val (.func f us ws), tab'', H⟩ := by
  obtain ⟨f1, f2⟩ := mapM_some hf
  obtain ⟨c1, c2⟩ := mapM_some hc
  have r1 : SsRel gh tab H.next w fs (first.toList.map ρ') := ⟨by simp [f1], fun i x v hx hv => by
    simp only [List.getElem?_map, Option.map_eq_some_iff] at hv
    obtain ⟨a, ha, rfl⟩ := hv
    exact hρ _ _ (f2 i a x ha hx)⟩
  have r2 : SsRel gh tab H.next w cs (captured.toList.map ρ') := ⟨by simp [c1], fun i x v hx hv => by
    simp only [List.getElem?_map, Option.map_eq_some_iff] at hv
    obtain ⟨a, ha, rfl⟩ := hv
    exact hρ _ _ (c2 i a x ha hx)⟩
  obtain ⟨gh1, K1, q1⟩ := outAll_run M r1 h1
  obtain ⟨gh2, K2, q2⟩ := outAll_run K1.mem (K1.goes.ss r2) h2
  refine ⟨gh2, .func (.func f) (first.map ρ') (captured.map ρ'), w, .inl ?_, K1.goes.trans K2.goes, K2.mem, .val _ _ ?_⟩
  · simp only [execOp, ho, Instr.makeFunc, Sem.run_bind, Sem.run_pure, Result.andThen_ok]
  · have e1 : first.map ρ' = (first.toList.map ρ').toArray := by rw [← Array.toList_map]
    have e2 : captured.map ρ' = (captured.toList.map ρ').toArray := by rw [← Array.toList_map]
    rw [e1, e2]
    have q1' := K2.goes.vs q1
    exact .func f us ws _ _ q1'.len q2.len q1'.rel q2.rel

end
end Go.Vi

/-
  Reading and writing memory of the call's own; make; append.
-/
namespace Go.Vi
set_option linter.unusedVariables false
set_option linter.unusedSimpArgs false

section
variable {P : Program} {E : En} {gh : Gh} {tab : List TC} {H : Hp} {w : World}

theorem box_cells (M : Mem E gh tab H w) {d g : Nat} {cs : List SV} {wr : Bool} (hr : tget tab d = .box g cs wr) :
    ∃ (c : Array Value) (ty : TypeId), w.heap[gh.β d]? = some (.cells c ty (0, 0)) ∧ c.size = cs.length ∧
      (∀ (j : Nat) (x : SV), cs[j]? = some x → c[j]? = some (c.getD j undef) ∧ SRel gh tab H.next w x (c.getD j undef)) ∧ (wr = true → gh.G (gh.β d) = 0) := by
  have h := M.tabR d
  rw [hr] at h
  obtain ⟨c, ty, h1, h2, h3, h4, h5⟩ := h
  refine ⟨c, ty, h1, h2, fun j x hj => ?_, h5⟩
  have hjl : j < c.size := by have := (List.getElem?_eq_some_iff.1 hj).1; omega
  have hc : c[j]? = some (c.getD j undef) := by simp [hjl]
  exact ⟨hc, h3 j x _ hj hc⟩

theorem load_loc_run (M : Mem E gh tab H w) {ρ' : Operand → Value} {o : Oper} {t : TypeId} {x : Operand} {d g off : Nat} {cs : List SV} {wr : Bool} {u : SV} (ho : o.op = .load t x)
    (hx : SRel gh tab H.next w (.loc d g off) (ρ' x)) (hr : tget tab d = .box g cs wr) (hl : ldS P t cs off = some u) : Stepped P E gh tab H w ρ' o ⟨u, tab, H⟩ := by
  obtain ⟨c, ty, h1, h2, h3, _⟩ := box_cells M hr
  generalize hv : ρ' x = v at hx
  cases hx with
  | loc _ _ _ b p hg hh =>
    obtain ⟨rfl, rfl⟩ := hh cs wr hr
    obtain ⟨r, e1, e2⟩ := loadS_run (P := P) (gh := gh) (tab := tab) (nx := H.next) (w := w) (b := gh.β d) (o := 0) (fun j => c.getD j undef)
      (fun j y hj => by rw [Nat.zero_add, cellAt_of h1]; exact h3 j y hj) hl
    rw [Nat.zero_add] at e1
    refine ⟨gh, r, w, .inl ?_, Goes.refl _ _ _ _, M, e2⟩
    simp only [execOp, ho, hv, Instr.loadAt, Instr.sureAddr, Sem.run_bind, Sem.run_pure, Result.andThen_ok, e1]

theorem load_rel_run (M : Mem E gh tab H w) {ρ' : Operand → Value} {o : Oper} {t : TypeId} {x : Operand} {d g i off sz : Nat} {es : List VV} {lk : Bool} {e u : VV} (ho : o.op = .load t x)
    (hx : SRel gh tab H.next w (.rel d g i off sz) (ρ' x)) (hr : tget tab d = .row g es sz lk) (he : es[i]? = some e) (hl : ldV P t e.cells off = some u) :
    Stepped P E gh tab H w ρ' o ⟨.val u, tab, H⟩ := by
  obtain ⟨c, ty, h1, h2, h3, h4, h5, _⟩ := row_cells M hr
  generalize hv : ρ' x = v at hx
  cases hx with
  | rel _ _ _ _ _ b p hg hh =>
    obtain ⟨rfl, rfl⟩ := hh es lk hr
    obtain ⟨r, e1, e2⟩ := load_run (P := P) (gh := gh) (nx := H.next) (w := w) (b := gh.β d) (o := gh.bo d + i * sz) (fun j => c.getD (gh.bo d + i * sz + j) undef)
      (fun j y hj => by rw [cellAt_of h1]; exact (h5 i e j y he hj).2) hl
    refine ⟨gh, r, w, .inl ?_, Goes.refl _ _ _ _, M, .val _ _ e2⟩
    simp only [execOp, ho, hv, Instr.loadAt, Instr.sureAddr, Sem.run_bind, Sem.run_pure, Result.andThen_ok, e1]

theorem putCells_eq {α : Type} (l vs : List α) (off : Nat) (h : off + vs.length ≤ l.length) : putCells l off vs = l.take off ++ vs ++ l.drop (off + vs.length) := by
  apply List.ext_getElem?
  intro k
  rw [putCells_get _ _ _ _ h, List.append_assoc, List.getElem?_append, List.getElem?_append]
  simp only [List.length_take]
  have : min off l.length = off := by omega
  rw [this]
  by_cases h1 : k < off
  · rw [if_neg (by omega), if_pos h1, List.getElem?_take, if_pos h1]
  · rw [if_neg h1]
    by_cases h2 : k < off + vs.length
    · rw [if_pos ⟨by omega, h2⟩, if_pos (by omega)]
    · rw [if_neg (by omega), if_neg (by omega), List.getElem?_drop]
      congr 1; omega

/-- the model's store of a value -/
theorem storeVar_run {t : TypeId} {b o : Nat} {v : Value} {cur : Array Value} {ty : TypeId} (hs : sizeT P t = some v.cells.size) (hg : w.heap[b]? = some (.cells cur ty (0, 0)))
    (hle : o + v.cells.size ≤ cur.size) (h1 : ∀ u, u ∈ v.cells.toList → u.oneCell' = true) :
    (storeVar t ⟨b, o, none⟩ v).run P w = .ok () (w.setRow b (putCells cur.toList o v.cells.toList).toArray) := by
  have := run_storeCells_at P b o ty v.cells.toList 0 cur w hg (by simpa using hle) (fun u hu => h1 u hu)
  simp only [Nat.add_zero] at this
  rw [putCells_eq _ _ _ (by simpa using hle)]
  simp only [storeVar, Sem.run_bind, run_sizeOf hs, Result.andThen_ok]
  simp only [ne_eq, not_true, if_false, Sem.run_pure, Result.andThen_ok, this]

theorem store_loc_run (M : Mem E gh tab H w) {ρ' : Operand → Value} {o : Oper} {t : TypeId} {x y : Operand} {d g off : Nat} {cs : List SV} {v : SV} (ho : o.op = .store t x y)
    (hx : SRel gh tab H.next w (.loc d g off) (ρ' x)) (hy : SRel gh tab H.next w v (ρ' y)) (hr : tget tab d = .box g cs true) (hs : sizeT P t = some (svCells v).length)
    (h1 : (svCells v).all oneCell = true) (hle : off + (svCells v).length ≤ cs.length) : Stepped P E gh tab H w ρ' o ⟨.val .undef, tab.set d (.box g (putCells cs off (svCells v)) true), H⟩ := by
  obtain ⟨c, ty, e1, e2, e3, e4⟩ := box_cells M hr
  obtain ⟨hc, hone⟩ := value_cells_of_svCells hy h1
  have hcl := hc.len
  simp at hcl
  generalize hv : ρ' x = p at hx
  cases hx with
  | loc _ _ _ b q hg hh =>
    obtain ⟨rfl, rfl⟩ := hh cs true hr
    have hrun := storeVar_run (P := P) (t := t) (b := gh.β d) (o := q) (v := ρ' y) (by rw [hcl]; exact hs) e1 (by omega) hone
    have hG := e4 rfl
    obtain ⟨T, M'⟩ := M.write (d := d) (tc := .box g (putCells cs q (svCells v)) true) (c' := (putCells c.toList q (ρ' y).cells.toList).toArray) (by rw [hr]; rfl) (by rw [hr]; exact .inr rfl) rfl
      (by rw [hr]; rfl) e1 (fun k hk => by omega) (fun T hb => by
        refine ⟨_, ty, hb, by simp [putCells_len, e2], fun i x u hx hu => ?_, ?_, fun _ => hG⟩
        · have hss : SsRel gh tab H.next w cs c.toList := ⟨by simpa using e2, fun i x u hx hu => by
            obtain ⟨a1, a2⟩ := e3 i x hx
            have hu' : c[i]? = some u := by simpa using hu
            rw [a1] at hu'
            simp only [Option.some.injEq] at hu'
            rw [← hu']; exact a2⟩
          exact T.s ((put_rel hss hc hle).rel i x u hx (by simpa using hu))
        · exact M.own (by rw [hr]; rfl))
    refine ⟨gh, undef, _, .inr ⟨?_, rfl⟩, T, M', .val _ _ .undef⟩
    simp only [execOp, ho, hv, Instr.storeAt, Instr.sureAddr, Sem.run_bind, Sem.run_pure, Result.andThen_ok, hrun]

theorem setElem_some {e e' : VV} {off : Nat} {cs : List VV} (h : setElem e off cs = some e') (hn : cs ≠ []) : e'.cells = putCells e.cells off cs ∧ off + cs.length ≤ e.cells.length := by
  unfold setElem at h
  split at h
  · rename_i l
    split at h
    · rename_i hle
      simp at h; subst h
      exact ⟨by rw [← List.append_assoc]; exact (putCells_eq l cs off hle).symm, hle⟩
    · simp at h
  · rename_i hne
    have he : e.cells = [e] := by cases e <;> first | rfl | (exact absurd rfl (hne _))
    split at h
    · rename_i c
      split at h
      · rename_i hc
        simp at h; subst h
        refine ⟨?_, by rw [he]; simp⟩
        rw [he]
        simp only [putCells, List.set_cons_zero]
        cases c <;> first | rfl | (simp [VV.one] at hc; done)
      · simp at h
    · simp at h

theorem store_rel_run (M : Mem E gh tab H w) {ρ' : Operand → Value} {o : Oper} {t : TypeId} {x y : Operand} {d g i off sz : Nat} {es : List VV} {v : SV} {e e' u : VV} {tab' : List TC}
    (ho : o.op = .store t x y) (hx : SRel gh tab H.next w (.rel d g i off sz) (ρ' x)) (hy : SRel gh tab H.next w v (ρ' y)) (hu : outT tab v = some (u, tab'))
    (hr : tget tab' d = .row g es sz false) (hs : sizeT P t = some u.cells.length) (h1 : (svCells v).all oneCell = true) (he : es[i]? = some e) (hse : setElem e off u.cells = some e') (hn : u.cells ≠ []) :
    Stepped P E gh tab H w ρ' o ⟨.val .undef, tab'.set d (.row g (es.set i e') sz false), H⟩ := by
  obtain ⟨gh1, K, ru⟩ := outT_run M hy hu
  have M1 := K.mem
  obtain ⟨c, ty, c1, c2, c3, c4, c5, c6, c7⟩ := row_cells M1 hr
  obtain ⟨_, hone⟩ := value_cells_of_svCells hy h1
  have huc := ru.cells
  have hul := huc.len
  simp at hul
  have hx1 := K.goes.s hx
  have hil : i < es.length := (List.getElem?_eq_some_iff.1 he).1
  obtain ⟨s1, s2⟩ := setElem_some hse hn
  have hel := c4 i e he
  have hle : (i + 1) * sz ≤ es.length * sz := Nat.mul_le_mul_right _ hil
  rw [Nat.add_mul, Nat.one_mul] at hle
  have hG : gh1.G (gh1.β d) = 0 := by
    have h := M1.tabR d
    rw [hr] at h
    obtain ⟨_, _, _, _, _, _, _, _, h7, _⟩ := h
    exact h7 rfl
  generalize hv : ρ' x = p at hx1
  cases hx1 with
  | rel _ _ _ _ _ b q hg hh =>
    obtain ⟨rfl, rfl⟩ := hh es false hr
    have hrun := storeVar_run (P := P) (t := t) (b := gh1.β d) (o := gh1.bo d + i * sz + off) (v := ρ' y) (by rw [hul]; exact hs) c1 (by omega) hone
    obtain ⟨T, M'⟩ := M1.write (d := d) (tc := .row g (es.set i e') sz false) (c' := (putCells c.toList (gh1.bo d + i * sz + off) (ρ' y).cells.toList).toArray) (by rw [hr]; rfl)
      (by rw [hr]; exact .inr ⟨rfl, rfl⟩) rfl (by rw [hr]; rfl) c1 (fun k hk => by omega) (fun T hb => by
        refine ⟨_, ty, hb, by simp [putCells_len, c2], by simp [putCells_len]; omega, fun k a hk => ?_, fun k a j z f hk hj hf => ?_, M1.own (by rw [hr]; rfl), fun _ => hG, by rw [hG]; exact Nat.zero_le _, c7⟩
        · rw [List.getElem?_set] at hk
          split at hk
          · rename_i hik
            subst hik
            simp [hil] at hk; subst hk
            rw [s1, putCells_len]; exact hel
          · exact c4 k a hk
        · have hlt : gh1.bo d + i * sz + off + (ρ' y).cells.toList.length ≤ c.toList.length := by simp; omega
          have hf' : (putCells c.toList (gh1.bo d + i * sz + off) (ρ' y).cells.toList)[gh1.bo d + k * sz + j]? = some f := by simpa using hf
          rw [putCells_get _ _ _ _ hlt] at hf'
          rw [List.getElem?_set] at hk
          split at hk
          · rename_i hik
            subst hik
            simp [hil] at hk; subst hk
            rw [s1, putCells_get _ _ _ _ s2] at hj
            by_cases hb' : off ≤ j ∧ j < off + u.cells.length
            · rw [if_pos hb'] at hj
              rw [if_pos (by simp; omega)] at hf'
              have : gh1.bo d + i * sz + j - (gh1.bo d + i * sz + off) = j - off := by omega
              rw [this] at hf'
              exact T.v (huc.rel _ z f hj hf')
            · rw [if_neg hb'] at hj
              rw [if_neg (by simp; omega)] at hf'
              obtain ⟨a1, a2, a3⟩ := c5 i e j z he hj
              have hf2 : c[gh1.bo d + i * sz + j]? = some f := by simpa using hf'
              rw [a2] at hf2
              simp only [Option.some.injEq] at hf2
              rw [← hf2]; exact T.v a3
          · rename_i hik
            have hal := c4 k a hk
            have hjl : j < sz := by have := (List.getElem?_eq_some_iff.1 hj).1; omega
            rw [if_neg] at hf'
            · obtain ⟨a1, a2, a3⟩ := c5 k a j z hk hj
              have hf2 : c[gh1.bo d + k * sz + j]? = some f := by simpa using hf'
              rw [a2] at hf2
              simp only [Option.some.injEq] at hf2
              rw [← hf2]; exact T.v a3
            · rintro ⟨q1, q2⟩
              simp at q2
              have : k * sz + j = i * sz + (k * sz + j - i * sz) := by omega
              have := mul_add_inj hjl (by omega) this
              exact hik this.1.symm)
    refine ⟨gh1, undef, _, .inr ⟨?_, rfl⟩, K.goes.trans T, M', .val _ _ .undef⟩
    simp only [execOp, ho, hv, Instr.storeAt, Instr.sureAddr, Sem.run_bind, Sem.run_pure, Result.andThen_ok, hrun]

theorem makeSlice_run (M : Mem E gh tab H w) {ρ' : Operand → Value} {o : Oper} {t e : TypeId} {l c : Operand} {n m : Int} {d sz : Nat} {z : VV} {i : TypeInfo} (ho : o.op = .makeSlice t l c)
    (hl : ρ' l = .int .i64 n) (hc : ρ' c = .int .i64 m) (he : elemOfSlice P t = some e) (hz : zeroT P e = some z) (hs : sizeT P e = some sz) (hi : P.info? e = some i) (hd : d < tab.length)
    (h0 : 0 ≤ n) (hnm : n ≤ m) (hsz : 0 < sz) (hzl : z.cells.length = sz) (hroom : roomOk m.toNat i.bytes = true) :
    Stepped P E gh tab H w ρ' o ⟨.own d ((tget tab d).gen + 1) 0 n.toNat sz, tab.set d (.row ((tget tab d).gen + 1) (List.replicate n.toNat z) sz false), H⟩ := by
  obtain ⟨v, hr, hv⟩ := zero_rel hz
  have hu : P.underlying t = some (.slice e) := by
    unfold elemOfSlice at he
    split at he
    · simp at he; subst he; assumption
    · simp at he
  simp only [roomOk, Bool.and_eq_true, decide_eq_true_eq] at hroom
  obtain ⟨hr1, hr2⟩ := hroom
  have hw1 : IntKind.i64.wrap n = n := IntWalk.i64_in n (by omega)
  have hw2 : IntKind.i64.wrap m = m := IntWalk.i64_in m (by omega)
  have hb : ¬ ((i.bytes : Int) * m > 2 ^ 48) := by
    have e1 : (i.bytes : Int) * m = ((m.toNat * i.bytes : Nat) : Int) := by
      rw [Int.natCast_mul, Int.toNat_of_nonneg (by omega), Int.mul_comm]
    rw [e1]; omega
  have hzr := zeros_rel (hv w gh H.next) hzl hsz m.toNat
  have hvc : v.cells.size = sz := by have := (hv w gh H.next).cells.len; simp at this; omega
  have hle : n.toNat ≤ m.toNat := by omega
  have hmul : n.toNat * sz ≤ m.toNat * sz := Nat.mul_le_mul_right _ hle
  obtain ⟨gh2, T2, M2, S2⟩ := fresh_row M hd (es := List.replicate n.toNat z) (sz := sz) (c := (Array.range (m.toNat * sz)).map (v.cells[· % v.cells.size]!)) hsz (by simpa using hmul)
    (fun k a hk => by
      rw [List.getElem?_replicate] at hk
      split at hk
      · simp at hk; subst hk; exact hzl
      · simp at hk)
    (fun k a j x u hk hj hu => by
      refine hzr.rel k a j x u ?_ hj (by rw [Array.getElem?_toList]; exact hu)
      rw [List.getElem?_replicate] at hk ⊢
      split at hk
      · rw [if_pos (by omega)]; exact hk
      · simp at hk) e false (n := n.toNat) (cap := m.toNat) hle (by simp)
  refine ⟨gh2, _, _, .inl ?_, T2, M2, S2⟩
  simp only [execOp, ho, hl, hc, Instr.makeSlice, Sem.run_bind, run_underlying hu, Result.andThen_ok, asInt, asIntOf, Sem.run_pure, typeInfo, run_program, hi, hw1, hw2]
  rw [if_neg (by simp; omega)]
  simp only [Sem.run_bind, run_askRoom, Result.andThen_ok, run_sizeOf hs]
  by_cases hz0 : m.toNat * sz = 0
  · simp only [hz0, if_true, Sem.run_pure, Result.andThen_ok, newRow, run_newObj, Sem.run_bind]
    have : (Array.range 0).map (fun x => (#[] : Array Value)[x % (#[] : Array Value).size]!) = (Array.range 0).map (fun x => v.cells[x % v.cells.size]!) := by simp
    simp only [this]
    rfl
  · simp only [if_neg hz0, Sem.run_bind, hr, Result.andThen_ok, Sem.run_pure, newRow, run_newObj]
    rfl

end
end Go.Vi

/-
  append, copy, clear.
-/
namespace Go.Vi
set_option linter.unusedVariables false
set_option linter.unusedSimpArgs false

section
variable {P : Program} {E : En} {gh : Gh} {tab : List TC} {H : Hp} {w : World}

/-- the elements lie in memory, one behind the other -/
structure Src (gh : Gh) (nx : Nat) (w : World) (es : List VV) (sz : Nat) (b o : Nat) (news : List Value) : Prop where
  row : RowRel gh nx w es sz news
  at_ : ∀ (j : Nat) (u : Value), news[j]? = some u → cellAt w b (o + j) = some u

theorem Src.nil {nx sz b o : Nat} : Src gh nx w [] sz b o [] := ⟨⟨by simp, by simp, by simp⟩, by simp⟩

theorem lst_src {nx : Nat} {es : List VV} {v : Value} {sz : Nat} (h : VR gh nx w (.lst es) v) (hsz : 0 < sz) (hs : ∀ x, x ∈ es → x.cells.length = sz) :
    (∃ b o cap news, v = .slice (some ⟨b, o, none⟩) es.length cap ∧ es.length ≤ cap ∧ Src gh nx w es sz b o news) ∨ (es = [] ∧ ∃ a cap, v = .slice (some a) 0 cap) := by
  cases h with
  | lste a cap => exact .inr ⟨rfl, a, cap, rfl⟩
  | lst _ b base sz' cap vs hs' hc hv hcap =>
    left
    by_cases hne : es = []
    · subst hne
      exact ⟨b, base, cap, [], rfl, hcap, Src.nil⟩
    · have : sz' = sz := by
        cases es with
        | nil => exact absurd rfl hne
        | cons x r => rw [← hs' 0 x rfl, hs x (by simp)]
      subst this
      have key : ∀ k, k < es.length * sz' → ∃ e c, es[k / sz']? = some e ∧ e.cells[k % sz']? = some c := fun k hk => by
        have h1 : k / sz' < es.length := by rw [Nat.div_lt_iff_lt_mul hsz]; exact hk
        have h2 : k % sz' < sz' := Nat.mod_lt _ hsz
        have he := List.getElem?_eq_getElem h1
        exact ⟨_, _, he, List.getElem?_eq_getElem (by rw [hs' _ _ he]; exact h2)⟩
      refine ⟨b, base, cap, (List.range (es.length * sz')).map fun k => vs (k / sz') (k % sz'), rfl, hcap, ⟨⟨by simp, hs', fun i e j x u hi hj hu => ?_⟩, fun k u hu => ?_⟩⟩
      · have hjl : j < sz' := by have := (List.getElem?_eq_some_iff.1 hj).1; rw [hs' i e hi] at this; exact this
        have hil := (List.getElem?_eq_some_iff.1 hi).1
        have hle : (i + 1) * sz' ≤ es.length * sz' := Nat.mul_le_mul_right _ hil
        rw [Nat.add_mul, Nat.one_mul] at hle
        have d1 : (i * sz' + j) / sz' = i := by rw [Nat.mul_comm, Nat.mul_add_div hsz, Nat.div_eq_of_lt hjl]; omega
        have d2 : (i * sz' + j) % sz' = j := by rw [Nat.mul_comm, Nat.mul_add_mod, Nat.mod_eq_of_lt hjl]
        simp [show i * sz' + j < es.length * sz' by omega, d1, d2] at hu
        subst hu
        exact hv i e j x hi hj
      · have hk : k < es.length * sz' := by have := (List.getElem?_eq_some_iff.1 hu).1; simpa using this
        simp [hk] at hu
        subst hu
        obtain ⟨e, c, q1, q2⟩ := key k hk
        have := (hc _ e _ c q1 q2).2
        rw [Nat.add_assoc] at this
        have hdm : k / sz' * sz' + k % sz' = k := by rw [Nat.mul_comm]; exact Nat.div_add_mod _ _
        rw [hdm] at this
        exact this

theorem row_src (M : Mem E gh tab H w) {d g off n sz : Nat} {es : List VV} {lk : Bool} (hr : tget tab d = .row g es sz lk) (hle : off + n ≤ es.length) :
    ∃ news, Src gh H.next w ((es.drop off).take n) sz (gh.β d) (gh.bo d + off * sz) news := by
  obtain ⟨c, ty, h1, h2, h3, h4, h5, h6, h7⟩ := row_cells M hr
  have hm : (off + n) * sz ≤ es.length * sz := Nat.mul_le_mul_right _ hle
  rw [Nat.add_mul] at hm
  have key : ∀ (i : Nat) (e : VV), ((es.drop off).take n)[i]? = some e → es[off + i]? = some e := fun i e hi => by
    rw [List.getElem?_take] at hi
    split at hi
    · rwa [List.getElem?_drop] at hi
    · simp at hi
  refine ⟨(c.toList.drop (gh.bo d + off * sz)).take (n * sz), ⟨⟨by simp; rw [Nat.min_eq_left (by omega), Nat.min_eq_left (by omega)], fun i e hi => h4 _ e (key i e hi), fun i e j x u hi hj hu => ?_⟩, fun j u hu => ?_⟩⟩
  · obtain ⟨a1, a2, a3⟩ := h5 _ e j x (key i e hi) hj
    rw [List.getElem?_take] at hu
    split at hu
    · rw [List.getElem?_drop] at hu
      have e1 : gh.bo d + off * sz + (i * sz + j) = gh.bo d + (off + i) * sz + j := by rw [Nat.add_mul]; omega
      rw [e1] at hu
      have hu' : c[gh.bo d + (off + i) * sz + j]? = some u := by simpa using hu
      rw [a2] at hu'
      simp only [Option.some.injEq] at hu'
      rw [← hu']; exact a3
    · simp at hu
  · rw [List.getElem?_take] at hu
    split at hu
    · rw [List.getElem?_drop] at hu
      rw [cellAt_of h1]
      simpa using hu
    · simp at hu

theorem okElem_one {nx sz : Nat} {new : List VV} {news : List Value} (h : RowRel gh nx w new sz news) (hok : new.all (okElem sz) = true) (hsz : 0 < sz) : ∀ u, u ∈ news → u.oneCell' = true := by
  intro u hu
  obtain ⟨k, hk, rfl⟩ := List.getElem_of_mem hu
  have hlen := h.len
  have h1 : k / sz < new.length := by rw [Nat.div_lt_iff_lt_mul hsz]; omega
  have h2 : k % sz < sz := Nat.mod_lt _ hsz
  have he := List.getElem?_eq_getElem h1
  have hel := h.size _ _ he
  have hx := List.getElem?_eq_getElem (show k % sz < (new[k / sz]).cells.length by rw [hel]; exact h2)
  have hdm : k / sz * sz + k % sz = k := by rw [Nat.mul_comm]; exact Nat.div_add_mod _ _
  have hr := h.rel _ _ _ _ news[k] he hx (by rw [hdm]; exact List.getElem?_eq_getElem hk)
  have := List.all_eq_true.1 hok _ (List.getElem_mem h1)
  simp only [okElem, Bool.and_eq_true] at this
  have := List.all_eq_true.1 this.2 _ (List.getElem_mem (show k % sz < (new[k / sz]).cells.length by rw [hel]; exact h2))
  refine VR_one hr (fun l e => ?_) (fun e => ?_) <;> rw [e] at this <;> simp at this

theorem RowRel.append {nx sz : Nat} {es new : List VV} {olds news : List Value} (h : RowRel gh nx w es sz olds) (h' : RowRel gh nx w new sz news) (hsz : 0 < sz) :
    RowRel gh nx w (es ++ new) sz (olds ++ news) := by
  refine ⟨by simp [h.len, h'.len, Nat.add_mul], fun i e hi => ?_, fun i e j x u hi hj hu => ?_⟩
  · rw [List.getElem?_append] at hi
    split at hi
    · exact h.size i e hi
    · exact h'.size _ e hi
  · rw [List.getElem?_append] at hi
    split at hi
    · rename_i hil
      have hjl : j < sz := by have := (List.getElem?_eq_some_iff.1 hj).1; rw [h.size i e hi] at this; exact this
      have hle : (i + 1) * sz ≤ es.length * sz := Nat.mul_le_mul_right _ hil
      rw [Nat.add_mul, Nat.one_mul] at hle
      rw [List.getElem?_append, if_pos (by rw [h.len]; omega)] at hu
      exact h.rel i e j x u hi hj hu
    · rename_i hil
      have hle : es.length * sz ≤ i * sz := Nat.mul_le_mul_right _ (by omega)
      rw [List.getElem?_append, if_neg (by rw [h.len]; omega), h.len] at hu
      have : i * sz + j - es.length * sz = (i - es.length) * sz + j := by rw [Nat.sub_mul]; omega
      rw [this] at hu
      exact h'.rel _ e j x u hi hj hu

/-- an append of nothing -/
theorem app_none {t e ty : TypeId} {sz : Nat} {base a : Option Addr} {n cap c : Nat} (hu : P.underlying t = some (.slice e)) (hs : sizeT P e = some sz) (hn : n ≤ cap) :
    (Builtin.append_ #[t, t] ty #[.slice base n cap, .slice a 0 c]).run P w = .ok (.slice base n cap) w := by
  have hf : (Builtin.firstCells sz 0 (.slice a 0 c)).run P w = .ok #[] w := by
    cases a <;> simp [Builtin.firstCells, loadCells, loadCellsFrom]
  simp [Builtin.append_, run_underlying hu, run_sizeOf hs, Builtin.lenOf, hn, hf]
  cases base <;> simp [storeCells]

/-- an append where there is room -/
theorem app_room {t e ty : TypeId} {sz b o n cap b' o' m c' : Nat} {news : List Value} {cur : Array Value} {ct : TypeId} (hu : P.underlying t = some (.slice e)) (hs : sizeT P e = some sz)
    (hn : n + m ≤ cap) (hl : news.length = m * sz) (hat : ∀ (j : Nat) (u : Value), news[j]? = some u → cellAt w b' (o' + j) = some u) (hone : ∀ u, u ∈ news → u.oneCell' = true)
    (hg : w.heap[b]? = some (.cells cur ct (0, 0))) (hfit : o + n * sz + news.length ≤ cur.size) :
    (Builtin.append_ #[t, t] ty #[.slice (some ⟨b, o, none⟩) n cap, .slice (some ⟨b', o', none⟩) m c']).run P w =
      .ok (.slice (some ⟨b, o, none⟩) (n + m) cap) (w.setRow b (putCells cur.toList (o + n * sz) news).toArray) := by
  have hf := run_firstCells_some (P := P) w sz m ⟨b', o', none⟩ m c' news hl (fun j u hj => by rw [Addr.add_lit]; exact hat j u hj)
  have hst := run_storeCells_at P b (o + n * sz) ct news 0 cur w hg (by simpa using hfit) hone
  simp only [Nat.add_zero] at hst
  rw [putCells_eq _ _ _ (by simpa using hfit)]
  simp [Builtin.append_, run_underlying hu, run_sizeOf hs, Builtin.lenOf, hn, hf, Addr.add_lit, hst]

theorem added_src (M : Mem E gh tab H w) {a : SV} {av : Value} {new : List VV} {sz : Nat} (ha : SRel gh tab H.next w a av) (hd : added tab a = some new) (hok : new.all (okElem sz) = true) (hsz : 0 < sz) :
    (new = [] ∧ ∃ ad c, av = .slice ad 0 c) ∨ ∃ b o cap news, av = .slice (some ⟨b, o, none⟩) new.length cap ∧ Src gh H.next w new sz b o news := by
  have hs : ∀ x, x ∈ new → x.cells.length = sz := fun x hx => by
    have := List.all_eq_true.1 hok x hx
    simp only [okElem, Bool.and_eq_true, beq_iff_eq] at this
    exact this.1
  unfold added at hd
  split at hd
  · simp at hd; subst hd
    have := ha.of_val
    cases this
    exact .inl ⟨rfl, _, _, rfl⟩
  · simp at hd; subst hd
    rcases lst_src ha.of_val hsz hs with ⟨b, o, cap, news, e1, e2, e3⟩ | ⟨rfl, a, cap, e1⟩
    · exact .inr ⟨b, o, cap, news, e1, e3⟩
    · exact .inl ⟨rfl, _, _, e1⟩
  · simp at hd; subst hd
    cases ha with
    | full _ x n h =>
      rcases lst_src h hsz hs with ⟨b, o, cap, news, e1, e2, e3⟩ | ⟨rfl, a, cap, e1⟩
      · exact .inr ⟨b, o, cap, news, e1, e3⟩
      · exact .inl ⟨rfl, _, _, e1⟩
  · rename_i d g off n s
    split at hd
    · rename_i g' es sz' lk hr
      split at hd
      · rename_i hc
        obtain ⟨rfl, rfl, hle⟩ := hc
        simp at hd
        have hlen : new.length = n := by rw [← hd]; simp; omega
        cases ha with
        | own _ _ _ _ _ cap b o hg hn hh =>
          rcases hh es lk hr with ⟨rfl, rfl, _⟩ | ⟨h0, hc0⟩
          · by_cases hne : new = []
            · subst hne; simp at hlen; subst hlen
              exact .inl ⟨rfl, _, _, rfl⟩
            · obtain ⟨news, hsrc⟩ := row_src M hr hle
              have hss : s = sz := by
                obtain ⟨_, _, _, _, _, h4, _⟩ := row_cells M hr
                cases hnew : new with
                | nil => exact absurd hnew hne
                | cons x r =>
                  have hx0 : new[0]? = some x := by rw [hnew]; rfl
                  rw [← hd, List.getElem?_take] at hx0
                  split at hx0
                  · rw [List.getElem?_drop] at hx0
                    rw [← h4 _ x hx0, hs x (by rw [hnew]; simp)]
                  · simp at hx0
              subst hss
              rw [hd] at hsrc
              exact .inr ⟨_, _, cap, news, by rw [hlen], hsrc⟩
          · subst h0
            have : new = [] := List.eq_nil_of_length_eq_zero hlen
            subst this
            exact .inl ⟨rfl, _, _, rfl⟩
      · simp at hd
    · simp at hd
  · simp at hd

theorem objRow_src (M : Mem E gh tab H w) {o off n sz : Nat} {es : List VV} (hr : H.objs o = some (.row es sz)) (hd : off % sz = 0) (hle : off / sz + n ≤ es.length) :
    ∃ news, Src gh H.next w ((es.drop (off / sz)).take n) sz (gh.μ o).blk ((gh.μ o).off + off) news := by
  obtain ⟨c, ty, h1, h2, h3, h4, h5, h6⟩ := M.objAt o _ hr
  have hoff : off / sz * sz = off := by have := Nat.div_add_mod off sz; rw [Nat.mul_comm] at this; omega
  have hmul : (off / sz + n) * sz ≤ es.length * sz := Nat.mul_le_mul_right _ hle
  rw [Nat.add_mul, hoff] at hmul
  have hlen : ((es.drop (off / sz)).take n).length = n := by simp; omega
  have get : ∀ (i : Nat) (e : VV), ((es.drop (off / sz)).take n)[i]? = some e → es[off / sz + i]? = some e ∧ i < n := fun i e hi => by
    rw [List.getElem?_take] at hi
    split at hi
    · rw [List.getElem?_drop] at hi; exact ⟨hi, by assumption⟩
    · simp at hi
  have idx : ∀ i j, (off / sz + i) * sz + j = off + (i * sz + j) := fun i j => by rw [Nat.add_mul, hoff]; omega
  refine ⟨(List.range (n * sz)).map fun k => c.getD ((gh.μ o).off + off + k) undef, ⟨by simp [hlen], fun i e hi => h5 _ e (get i e hi).1, fun i e j x u hi hj hu => ?_⟩, fun k u hu => ?_⟩
  · obtain ⟨hi', hin⟩ := get i e hi
    have hjl : j < sz := by have := (List.getElem?_eq_some_iff.1 hj).1; rw [h5 _ e hi'] at this; exact this
    have hle2 : (i + 1) * sz ≤ n * sz := Nat.mul_le_mul_right _ hin
    rw [Nat.add_mul, Nat.one_mul] at hle2
    have hlt : (gh.μ o).off + off + (i * sz + j) < c.size := by omega
    simp [show i * sz + j < n * sz by omega] at hu
    subst hu
    refine h6 (off / sz + i) e j x _ hi' hj ?_
    rw [Nat.add_assoc, idx, ← Nat.add_assoc, ← Nat.add_assoc]
    have e9 : (gh.μ o).off + off + (i * sz + j) = (gh.μ o).off + off + i * sz + j := by omega
    rw [← e9]
    simp [hlt]
  · have hk : k < n * sz := by have := (List.getElem?_eq_some_iff.1 hu).1; simpa using this
    simp [hk] at hu
    subst hu
    have hlt : (gh.μ o).off + off + k < c.size := by omega
    rw [cellAt_of h1]
    simp [hlt]

theorem addedH_src (M : Mem E gh tab H w) {a : SV} {av : Value} {new : List VV} {sz : Nat} (ha : SRel gh tab H.next w a av) (hd : addedH tab H a = some new) (hok : new.all (okElem sz) = true) (hsz : 0 < sz) :
    (new = [] ∧ ∃ ad c, av = .slice ad 0 c) ∨ ∃ b o cap news, av = .slice (some ⟨b, o, none⟩) new.length cap ∧ Src gh H.next w new sz b o news := by
  unfold addedH at hd
  split at hd
  · rename_i ob off n s
    split at hd
    · rename_i es sz' hr
      split at hd
      · rename_i hc
        obtain ⟨rfl, hdv, hle⟩ := hc
        simp only [Option.some.injEq] at hd
        have hlen : new.length = n := by rw [← hd]; simp; omega
        cases ha.of_val with
        | row _ _ _ _ cap b' o' hlt hn hp hh =>
          by_cases hne : new = []
          · subst hne; simp at hlen; subst hlen
            exact .inl ⟨rfl, _, _, rfl⟩
          · rcases hh with ⟨a1, a2, a3⟩ | ⟨a1, a2⟩
            · obtain ⟨news, hsrc⟩ := objRow_src M hr hdv hle
              have hss : s = sz := by
                obtain ⟨_, _, _, _, _, _, h5, _⟩ := M.objAt ob _ hr
                cases hnew : new with
                | nil => exact absurd hnew hne
                | cons x r =>
                  have hx0 : new[0]? = some x := by rw [hnew]; rfl
                  rw [← hd, List.getElem?_take] at hx0
                  split at hx0
                  · rw [List.getElem?_drop] at hx0
                    have h9 := List.all_eq_true.1 hok x (by rw [hnew]; simp)
                    simp only [okElem, Bool.and_eq_true, beq_iff_eq] at h9
                    rw [← h5 _ x hx0]; exact h9.1
                  · simp at hx0
              subst hss
              rw [hd] at hsrc
              exact .inr ⟨_, _, cap, news, by rw [hlen, a1, a2], hsrc⟩
            · exfalso; rw [a1] at hlen; exact hne (List.eq_nil_of_length_eq_zero hlen)
      · simp at hd
    · simp at hd
  · exact added_src M ha hd hok hsz

/-- the row of a key is given up -/
theorem Mem.giveUp (M : Mem E gh tab H w) {d : Nat} (hd : d < tab.length) :
    Goes gh tab H.next w gh (tab.set d (.gone (tget tab d).gen)) H.next w ∧ Mem E gh (tab.set d (.gone (tget tab d).gen)) H w := by
  have hh : (tget tab d).heir (.gone (tget tab d).gen) := .inr (by cases tget tab d <;> rfl)
  -- the block that takes the row's place is one that nobody has
  have T : Goes gh tab H.next w gh (tab.set d (.gone (tget tab d).gen)) H.next w := by
    refine ⟨Nat.le_refl _, fun _ _ => rfl, fun _ => Nat.le_refl _, fun _ _ _ => rfl, fun e => ?_, fun e g es sz lk he hg => ?_, fun e g cs wr he hg => ?_⟩
    · by_cases he : e = d
      · subst he; rw [tget_set_same hd]; exact Nat.le_refl _
      · rw [tget_set_ne he]; exact Nat.le_refl _
    · by_cases hed : e = d
      · subst hed; rw [tget_set_same hd] at he; cases he
      · rw [tget_set_ne hed] at he; exact ⟨es, lk, he, rfl, rfl, rfl⟩
    · by_cases hed : e = d
      · subst hed; rw [tget_set_same hd] at he; cases he
      · rw [tget_set_ne hed] at he; exact ⟨cs, wr, he, rfl⟩
  have act : ∀ e, (tget (tab.set d (.gone (tget tab d).gen)) e).active = true → e ≠ d ∧ (tget tab e).active = true := fun e he => by
    by_cases hed : e = d
    · subst hed; rw [tget_set_same hd] at he; simp [TC.active] at he
    · rw [tget_set_ne hed] at he; exact ⟨hed, he⟩
  refine ⟨T, ⟨fun e => ?_, fun e e' hne h1 h2 => M.apart e e' hne (act e h1).2 (act e' h2).2, M.G0, fun o obj ho => ObjAt.keep T rfl (M.objAt o obj ho), M.objLt, M.objInj,
    fun e o he ho => M.objApart e o (act e he).2 ho, M.size, M.old, M.oldG, M.μ0, M.next, M.live, M.newObj, fun e b o s he => ?_, M.still⟩⟩
  · by_cases hed : e = d
    · subst hed; rw [tget_set_same hd]; trivial
    · rw [tget_set_ne hed]; exact TabAt.keep T rfl rfl rfl (fun _ => rfl) (fun _ => rfl) (M.tabR e)
  · obtain ⟨h1, h2⟩ := M.lent e b o s he
    by_cases hed : e = d
    · subst hed; rw [tget_set_same hd]; exact ⟨h1, fun _ h => by simp [TC.active] at h⟩
    · rw [tget_set_ne hed]; exact ⟨h1, h2⟩

theorem grown_size (z : Array Value) {sz n cap m : Nat} {olds news : List Value} (hz : z.size = sz) (ho : olds.length = n * sz) (hn : news.length = m * sz) (hc : n + m ≤ cap) :
    (olds.toArray ++ news.toArray ++ Builtin.zeroCells z (cap - (n + m))).size = cap * sz := by
  simp [Builtin.zeroCells, hz, ho, hn]
  rw [← Nat.add_mul, ← Nat.add_mul]
  congr 1; omega

/-- the run of an append that moves -/
theorem app_grow_run {gh : Gh} {nx : Nat} {w : World} {t e ty : TypeId} {sz n cap m c' b' o' : Nat} {base : Addr} {i : TypeInfo} {es new : List VV} {olds news : List Value} {x : Value} (hu : P.underlying t = some (.slice e))
    (hs : sizeT P e = some sz) (hi : P.info? e = some i) (hz : zeroOk P e sz = true) (hsz : 0 < sz) (hn : es.length = n) (hm : new.length = m)
    (ho : RowRel gh nx w es sz olds) (hoat : ∀ (j : Nat) (u : Value), olds[j]? = some u → w.cell? (base.add j) = some u) (hnew : Src gh nx w new sz b' o' news)
    (hg : cap < n + m) (hr : roomOk (n + m) i.bytes = true) (hbase : x = .slice (some base) n cap ∨ (x = .slice none 0 0 ∧ n = 0 ∧ cap = 0)) :
    ∃ (cap' : Nat) (c : Array Value), n + m ≤ cap' ∧ c.size = cap' * sz ∧ RowRel gh nx w (es ++ new) sz (olds ++ news) ∧ (∀ k, k < (olds ++ news).length → c[k]? = (olds ++ news)[k]?) ∧
      (Builtin.append_ #[t, t] ty #[x, .slice (some ⟨b', o', none⟩) m c']).run P w = .ok (.slice (some ⟨w.heap.size, 0, none⟩) (n + m) cap') (w.drew.alloc (.cells c e)) := by
  obtain ⟨z, hz, hzs⟩ : ∃ z, i.zero = some z ∧ z.cells.size = sz := by
    unfold zeroOk at hz
    split at hz
    · rename_i u hu'
      unfold zeroT at hu'
      simp only [hi, Option.bind_some] at hu'
      cases hzz : i.zero with
      | none => simp [hzz] at hu'
      | some z =>
        simp [hzz] at hu'
        have := (ofConst_rel (nx := 0) (w := w) (μ := gh.μ) (G := gh.G) hu').cells.len
        simp at hz this
        exact ⟨z, rfl, by omega⟩
    · simp at hz
  have his : i.size = sz := by simp [sizeT, hi] at hs; exact hs
  simp only [roomOk, Bool.and_eq_true, decide_eq_true_eq] at hr
  obtain ⟨hr1, hr2⟩ := hr
  have hol : olds.length = n * sz := by rw [ho.len, hn]
  have hnl : news.length = m * sz := by rw [hnew.row.len, hm]
  have hrow : RowRel gh nx w (es ++ new) sz (olds ++ news) := ho.append hnew.row hsz
  have hrun : ∃ cap', n + m ≤ cap' ∧ (Builtin.append_ #[t, t] ty #[x, .slice (some ⟨b', o', none⟩) m c']).run P w =
      .ok (.slice (some ⟨w.heap.size, 0, none⟩) (n + m) cap') (w.drew.alloc (.cells (olds.toArray ++ news.toArray ++ Builtin.zeroCells z.cells (cap' - (n + m))) e)) := by
    rcases hbase with rfl | ⟨rfl, rfl, rfl⟩
    · exact ⟨_, grownCap_ge _ _ _ _, run_append_grow w t ty e i z hu hi hz base n cap olds (by rw [his]; exact hol) hoat ⟨b', o', none⟩ m c' news (by rw [his]; exact hnl)
        (fun j v hv => by rw [Addr.add_lit]; exact hnew.at_ j v hv) hg (by omega) (growslice_fits hg (by omega))⟩
    · have hes : olds = [] := List.eq_nil_of_length_eq_zero (by rw [hol]; simp)
      subst hes
      refine ⟨_, by rw [Nat.zero_add]; exact grownCap_ge w m 0 e, ?_⟩
      rw [run_append_nil w t ty e i z hu hi hz ⟨b', o', none⟩ m c' news (by rw [his]; exact hnl) (fun j v hv => by rw [Addr.add_lit]; exact hnew.at_ j v hv) (by omega) (by omega) (by rw [Nat.zero_add] at hr1; omega)]
      simp
  obtain ⟨cap', hc, hrun⟩ := hrun
  have hsize := grown_size z.cells hzs hol hnl hc
  refine ⟨cap', _, hc, hsize, hrow, fun k hk => ?_, hrun⟩
  have : (olds.toArray ++ news.toArray : Array Value) = (olds ++ news).toArray := by simp
  rw [this, Array.getElem?_append_left (by simpa using hk)]
  simp

/-- an append that moves -/
theorem app_grow (M : Mem E gh tab H w) {t e ty : TypeId} {sz n cap m c' b' o' d : Nat} {base : Addr} {i : TypeInfo} {es new : List VV} {olds news : List Value} {x : Value} (hu : P.underlying t = some (.slice e))
    (hs : sizeT P e = some sz) (hi : P.info? e = some i) (hz : zeroOk P e sz = true) (hd : d < tab.length) (hsz : 0 < sz) (hn : es.length = n) (hm : new.length = m)
    (ho : RowRel gh H.next w es sz olds) (hoat : ∀ (j : Nat) (u : Value), olds[j]? = some u → w.cell? (base.add j) = some u) (hnew : Src gh H.next w new sz b' o' news)
    (hg : cap < n + m) (hr : roomOk (n + m) i.bytes = true) (lk : Bool) (hbase : x = .slice (some base) n cap ∨ (x = .slice none 0 0 ∧ n = 0 ∧ cap = 0)) :
    ∃ gh' v w', (Builtin.append_ #[t, t] ty #[x, .slice (some ⟨b', o', none⟩) m c']).run P w = .ok v w' ∧
      Goes gh tab H.next w gh' (tab.set d (.row ((tget tab d).gen + 1) (es ++ new) sz lk)) H.next w' ∧ Mem E gh' (tab.set d (.row ((tget tab d).gen + 1) (es ++ new) sz lk)) H w' ∧
      SRel gh' (tab.set d (.row ((tget tab d).gen + 1) (es ++ new) sz lk)) H.next w' (.own d ((tget tab d).gen + 1) 0 (n + m) sz) v := by
  obtain ⟨z, hz, hzs⟩ : ∃ z, i.zero = some z ∧ z.cells.size = sz := by
    unfold zeroOk at hz
    split at hz
    · rename_i u hu'
      unfold zeroT at hu'
      simp only [hi, Option.bind_some] at hu'
      cases hzz : i.zero with
      | none => simp [hzz] at hu'
      | some z =>
        simp [hzz] at hu'
        have := (ofConst_rel (nx := 0) (w := w) (μ := gh.μ) (G := gh.G) hu').cells.len
        simp at hz this
        exact ⟨z, rfl, by omega⟩
    · simp at hz
  have his : i.size = sz := by simp [sizeT, hi] at hs; exact hs
  simp only [roomOk, Bool.and_eq_true, decide_eq_true_eq] at hr
  obtain ⟨hr1, hr2⟩ := hr
  have hol : olds.length = n * sz := by rw [ho.len, hn]
  have hnl : news.length = m * sz := by rw [hnew.row.len, hm]
  have hrow : RowRel gh H.next w (es ++ new) sz (olds ++ news) := ho.append hnew.row hsz
  have hrun : ∃ cap', n + m ≤ cap' ∧ (Builtin.append_ #[t, t] ty #[x, .slice (some ⟨b', o', none⟩) m c']).run P w =
      .ok (.slice (some ⟨w.heap.size, 0, none⟩) (n + m) cap') (w.drew.alloc (.cells (olds.toArray ++ news.toArray ++ Builtin.zeroCells z.cells (cap' - (n + m))) e)) := by
    rcases hbase with rfl | ⟨rfl, rfl, rfl⟩
    · exact ⟨_, grownCap_ge _ _ _ _, run_append_grow w t ty e i z hu hi hz base n cap olds (by rw [his]; exact hol) hoat ⟨b', o', none⟩ m c' news (by rw [his]; exact hnl)
        (fun j v hv => by rw [Addr.add_lit]; exact hnew.at_ j v hv) hg (by omega) (growslice_fits hg (by omega))⟩
    · have hes : olds = [] := List.eq_nil_of_length_eq_zero (by rw [hol]; simp)
      subst hes
      refine ⟨_, by rw [Nat.zero_add]; exact grownCap_ge w m 0 e, ?_⟩
      rw [run_append_nil w t ty e i z hu hi hz ⟨b', o', none⟩ m c' news (by rw [his]; exact hnl) (fun j v hv => by rw [Addr.add_lit]; exact hnew.at_ j v hv) (by omega) (by omega) (by rw [Nat.zero_add] at hr1; omega)]
      simp
  obtain ⟨cap', hc, hrun⟩ := hrun
  obtain ⟨T1, M1⟩ := M.heap (w' := w.drew) rfl ⟨rfl, rfl, rfl⟩
  have hrow1 : RowRel gh H.next w.drew (es ++ new) sz (olds ++ news) := ⟨hrow.len, hrow.size, fun i e j x v a b c => T1.v (hrow.rel i e j x v a b c)⟩
  have hsize := grown_size z.cells hzs hol hnl hc
  have hcl : ∀ k, k < (olds ++ news).length → (olds.toArray ++ news.toArray ++ Builtin.zeroCells z.cells (cap' - (n + m)))[k]? = (olds ++ news)[k]? := fun k hk => by
    have : (olds.toArray ++ news.toArray : Array Value) = (olds ++ news).toArray := by simp
    rw [this, Array.getElem?_append_left (by simpa using hk)]
    simp
  obtain ⟨gh2, T2, M2, S2⟩ := fresh_row M1 hd (es := es ++ new) (sz := sz) (c := olds.toArray ++ news.toArray ++ Builtin.zeroCells z.cells (cap' - (n + m))) hsz
    (by rw [hsize]; simp only [List.length_append, hn, hm]; exact Nat.mul_le_mul_right _ hc) hrow1.size
    (fun i a j y v hia hjy hv => by
      have hjl : j < sz := by have := (List.getElem?_eq_some_iff.1 hjy).1; rw [hrow1.size i a hia] at this; exact this
      have hil := (List.getElem?_eq_some_iff.1 hia).1
      have hle : (i + 1) * sz ≤ (es ++ new).length * sz := Nat.mul_le_mul_right _ hil
      rw [Nat.add_mul, Nat.one_mul] at hle
      rw [hcl _ (by rw [hrow1.len]; omega)] at hv
      exact hrow1.rel i a j y v hia hjy hv) e lk (n := n + m) (cap := cap') hc (by rw [hsize]; exact Nat.le_refl _)
  exact ⟨gh2, _, _, hrun, T1.trans T2, M2, S2⟩

end
end Go.Vi

/-
  append, copy, clear: the operations.
-/
namespace Go.Vi
set_option linter.unusedVariables false
set_option linter.unusedSimpArgs false

section
variable {P : Program} {E : En} {gh : Gh} {tab : List TC} {H : Hp} {w : World}

theorem sub_get {α : Type} {es : List α} {off n i : Nat} {a : α} (hi : ((es.drop off).take n)[i]? = some a) : es[off + i]? = some a := by
  rw [List.getElem?_take] at hi
  split at hi
  · rwa [List.getElem?_drop] at hi
  · simp at hi

theorem elemOf_some {t e : TypeId} (h : elemOfSlice P t = some e) : P.underlying t = some (.slice e) := by
  unfold elemOfSlice at h
  split at h
  · simp at h; subst h; assumption
  · simp at h

/-- an append where there is room: the row goes on under another key -/
theorem app_place (M : Mem E gh tab H w) {t e ty : TypeId} {sz n cap m c' b' o' d d' g off : Nat} {es new : List VV} {news : List Value} {lk : Bool} (hu : P.underlying t = some (.slice e))
    (hs : sizeT P e = some sz) (hd : d < tab.length) (hsz : 0 < sz) (hr : tget tab d' = .row g es sz lk) (hle : off + n ≤ es.length) (hlk : lk = false ∨ off + n = es.length)
    (hm : new.length = m) (hnew : Src gh H.next w new sz b' o' news) (hone : ∀ u, u ∈ news → u.oneCell' = true) (hcap : n + m ≤ cap) (hroom : gh.bo d' + (off + cap) * sz ≤ gh.bs d') :
    ∃ gh' v w', (Builtin.append_ #[t, t] ty #[.slice (some ⟨gh.β d', gh.bo d' + off * sz, none⟩) n cap, .slice (some ⟨b', o', none⟩) m c']).run P w = .ok v w' ∧
      Goes gh tab H.next w gh' ((tab.set d' (.gone g)).set d (.row ((tget (tab.set d' (.gone g)) d).gen + 1) ((es.drop off).take n ++ new) sz lk)) H.next w' ∧
      Mem E gh' ((tab.set d' (.gone g)).set d (.row ((tget (tab.set d' (.gone g)) d).gen + 1) ((es.drop off).take n ++ new) sz lk)) H w' ∧
      SRel gh' ((tab.set d' (.gone g)).set d (.row ((tget (tab.set d' (.gone g)) d).gen + 1) ((es.drop off).take n ++ new) sz lk)) H.next w'
        (.own d ((tget (tab.set d' (.gone g)) d).gen + 1) 0 (n + m) sz) v := by
  have hact : (tget tab d').active = true := by rw [hr]; rfl
  have hd' := tget_lt hact
  obtain ⟨c, ct, h1, h2, h3, h4, h5, h6, h7⟩ := row_cells M hr
  have hT := M.tabR d'
  rw [hr] at hT
  obtain ⟨_, _, _, _, _, _, _, hown, hlkG, _, _⟩ := hT
  have hnl : news.length = m * sz := by rw [hnew.row.len, hm]
  have hmul : (off + n) * sz ≤ es.length * sz := Nat.mul_le_mul_right _ hle
  have hmul2 : (n + m) * sz ≤ cap * sz := Nat.mul_le_mul_right _ hcap
  rw [Nat.add_mul] at hmul hmul2 hroom
  have hrun := app_room (P := P) (w := w) (t := t) (e := e) (ty := ty) (sz := sz) (b := gh.β d') (o := gh.bo d' + off * sz) (n := n) (cap := cap) (b' := b') (o' := o') (m := m) (c' := c') (news := news)
    hu hs hcap hnl hnew.at_ hone h1 (by rw [hnl, h2]; omega)
  obtain ⟨T1, M1⟩ := M.giveUp hd'
  have hgen : (tget tab d').gen = g := by rw [hr]; rfl
  rw [hgen] at T1 M1
  have hlen1 : d < (tab.set d' (.gone g)).length := by simpa using hd
  have hfit : gh.bo d' + off * sz + n * sz + news.length ≤ c.toList.length := by simp; rw [hnl, h2]; omega
  have hb := setRow_heap w (gh.β d') c (putCells c.toList (gh.bo d' + off * sz + n * sz) news).toArray ct (0, 0) h1
  -- the new row
  have hGle : gh.G (gh.β d') ≤ gh.bo d' + off * sz + n * sz := by
    rcases hlk with h | h
    · rw [hlkG h]; exact Nat.zero_le _
    · rw [← h, Nat.add_mul] at h6; omega
  have hother : ∀ k, k ≠ d' → (tget (tab.set d' (.gone g)) k) = tget tab k := fun k hk => tget_set_ne hk
  obtain ⟨T2, M2⟩ := M1.upd (d := d) (tc := .row ((tget (tab.set d' (.gone g)) d).gen + 1) ((es.drop off).take n ++ new) sz lk) (b := gh.β d') (bo := gh.bo d' + off * sz) (bs := gh.bs d')
    (w' := w.setRow (gh.β d') (putCells c.toList (gh.bo d' + off * sz + n * sz) news).toArray) hlen1 (.inl (by simp [TC.gen])) (fun h => by simp [TC.gen] at h)
    (fun b hb => setRow_other w _ _ _ hb) (by simp) ⟨rfl, rfl, rfl⟩
    (fun k hk ha => by
      by_cases hkd : k = d'
      · subst hkd; rw [tget_set_same hd'] at ha; simp [TC.active] at ha
      · rw [hother k hkd] at ha; exact M.apart k d' hkd ha hact)
    (fun o ho => (M.objApart d' o hact ho).symm) hown
    (fun k hk => by
      rw [cellAt_of hb, cellAt_of h1]
      have := putCells_get news c.toList (gh.bo d' + off * sz + n * sz) k hfit
      rw [if_neg (by omega)] at this
      simpa using this)
    (fun T => by
      refine ⟨_, ct, by simp only [upd_same]; exact hb, by simp only [upd_same]; simp [putCells_len, h2], ?_, fun i a hi => ?_, fun i a j y v hi hj hv => ?_, by simp only [upd_same]; exact hown, fun hl => ?_, ?_, hsz⟩
      · simp only [upd_same, List.length_append, List.length_take, List.length_drop, hm]
        have : min n (es.length - off) = n := by omega
        rw [this, Nat.add_mul]
        simp [putCells_len]
        rw [h2]; omega
      · rw [List.getElem?_append] at hi
        split at hi
        · rw [List.getElem?_take] at hi
          split at hi
          · rw [List.getElem?_drop] at hi; exact h4 _ a hi
          · simp at hi
        · exact hnew.row.size _ a hi
      · simp only [upd_same] at hv
        have hv' : (putCells c.toList (gh.bo d' + off * sz + n * sz) news)[gh.bo d' + off * sz + i * sz + j]? = some v := by simpa using hv
        rw [putCells_get _ _ _ _ hfit] at hv'
        have hlen : ((es.drop off).take n).length = n := by simp; omega
        rw [List.getElem?_append] at hi
        split at hi
        · rename_i hin
          rw [hlen] at hin
          have hi' := sub_get hi
          have hjl : j < sz := by have := (List.getElem?_eq_some_iff.1 hj).1; rw [h4 _ a hi'] at this; exact this
          have hle2 : (i + 1) * sz ≤ n * sz := Nat.mul_le_mul_right _ hin
          rw [Nat.add_mul, Nat.one_mul] at hle2
          rw [if_neg (by omega)] at hv'
          obtain ⟨q1, q2, q3⟩ := h5 _ a j y hi' hj
          rw [Nat.add_mul] at q2 q3
          have hv2 : c[gh.bo d' + (off * sz + i * sz) + j]? = some v := by
            rw [← Nat.add_assoc]; simpa using hv'
          rw [q2] at hv2
          simp only [Option.some.injEq] at hv2
          rw [← hv2]
          exact (T1.trans T).v q3
        · rename_i hin
          rw [hlen] at hin hi
          have hal := hnew.row.size _ a hi
          have hjl : j < sz := by have := (List.getElem?_eq_some_iff.1 hj).1; rw [hal] at this; exact this
          have hil := (List.getElem?_eq_some_iff.1 hi).1
          have e1 : i * sz = n * sz + (i - n) * sz := by rw [← Nat.add_mul]; congr 1; omega
          have hle2 : (i - n + 1) * sz ≤ m * sz := Nat.mul_le_mul_right _ (by omega)
          rw [Nat.add_mul, Nat.one_mul] at hle2
          rw [if_pos (by omega)] at hv'
          have e2 : gh.bo d' + off * sz + i * sz + j - (gh.bo d' + off * sz + n * sz) = (i - n) * sz + j := by omega
          rw [e2] at hv'
          exact (T1.trans T).v (hnew.row.rel _ a j y v hi hj hv')
      · simp only [upd_same]; exact hlkG hl
      · simp only [upd_same, List.length_append, List.length_take, List.length_drop, hm]
        have : min n (es.length - off) = n := by omega
        rw [this, Nat.add_mul]
        omega)
  refine ⟨_, _, _, hrun, T1.trans T2, M2, .own _ _ _ _ _ _ _ _ (by rw [tget_set_same hlen1]; exact Nat.le_refl _) hcap fun es' lk' he => .inl ⟨?_, ?_, ?_⟩⟩
  · simp only [upd_same]
  · simp only [upd_same]; omega
  · simp only [upd_same, Nat.zero_add]; omega

theorem builtin_run {ρ' : Operand → Value} {o : Oper} {c : Call} {b : Builtin} (ho : o.op = .call c) (hc : c.callee = .builtin b) :
    (execOp ρ' o).run P w = (builtin b c.argTypes o.type (c.args.map fun | .const _ => true | _ => false) (c.args.map ρ')).run P w := by
  simp only [execOp, ho, resolve, hc, Sem.run_bind, Sem.run_pure, Result.andThen_ok, invoke]
  rfl

theorem arr2 {α : Type} {a : Array α} {x y : α} (h : a.toList = [x, y]) : a = #[x, y] := by rw [← Array.toArray_toList (xs := a), h]
theorem arr1 {α : Type} {a : Array α} {x : α} (h : a.toList = [x]) : a = #[x] := by rw [← Array.toArray_toList (xs := a), h]

theorem appendV_run (M : Mem E gh tab H w) {ρ : Operand → Option SV} {ρ' : Operand → Value} (hρ : ∀ x s, ρ x = some s → SRel gh tab H.next w s (ρ' x)) {o : Oper} {c : Call} {x y : Operand} {t : TypeId} {s : St}
    (ho : o.op = .call c) (hc : c.callee = .builtin .append) (ha : c.args.toList = [x, y]) (ht : c.argTypes.toList = [t, t]) (h : appendV P o.dst t (ρ x) (ρ y) tab H = some s) : Stepped P E gh tab H w ρ' o s := by
  have hrun : ∀ r w', (Builtin.append_ #[t, t] o.type #[ρ' x, ρ' y]).run P w = .ok r w' → (execOp ρ' o).run P w = .ok (.value r) w' := by
    intro r w' hr
    rw [builtin_run ho hc, arr2 ha, arr2 ht]
    simp only [builtin, List.map_toArray, List.map_cons, List.map_nil, Sem.run_bind]
    rw [hr]
    rfl
  unfold appendV at h
  split at h
  · rename_i d sx sy e hdst hx hy he
    split at h
    · rename_i sz i new hs hi hadd
      have hu := elemOf_some he
      split at h
      · rename_i hc0
        obtain ⟨hd, hsz, hok, hzo⟩ := hc0
        have hsrc := addedH_src M (hρ y _ hy) hadd hok hsz
        have hone : ∀ b o news, Src gh H.next w new sz b o news → ∀ u, u ∈ news → u.oneCell' = true := fun b o news hs => okElem_one hs.row hok hsz
        split at h
        · -- append(nil, ..)
          have hv := (hρ x _ hx).of_val
          generalize hvx : ρ' x = vx at hv hrun
          cases hv
          split at h
          · rename_i hne
            simp only [Option.some.injEq] at h; subst h
            have hne' : new = [] := by simpa using hne
            rcases hsrc with ⟨_, ad, c', hsy⟩ | ⟨b, o', cap, news, hsy, _⟩
            · rw [hsy] at hrun
              exact ⟨gh, _, w, .inl (hrun _ _ (app_none hu hs (Nat.le_refl _))), Goes.refl _ _ _ _, M, .val _ _ .nils⟩
            · rw [hsy, hne'] at hrun
              exact ⟨gh, _, w, .inl (hrun _ _ (app_none hu hs (Nat.le_refl _))), Goes.refl _ _ _ _, M, .val _ _ .nils⟩
          · rename_i hne
            split at h
            · rename_i hroom
              simp only [Option.some.injEq] at h; subst h
              rcases hsrc with ⟨h0, _⟩ | ⟨b, o', cap, news, hsy, hsrc⟩
              · rw [h0] at hne; simp at hne
              · rw [hsy] at hrun
                have hpos : 0 < new.length := by
                  cases new with
                  | nil => simp at hne
                  | cons a r => simp
                obtain ⟨gh2, v, w2, e1, e2, e3, e4⟩ := app_grow (P := P) (ty := o.type) M hu hs hi hzo hd hsz (es := []) (n := 0) (cap := 0) rfl rfl (olds := []) ⟨by simp, by simp, by simp⟩ (base := ⟨0, 0, none⟩) (by simp) hsrc
                  (c' := cap) (by omega) (by simpa using hroom) false (x := .slice none 0 0) (.inr ⟨rfl, rfl, rfl⟩)
                simp only [Nat.zero_add, List.nil_append] at e1 e2 e3 e4
                exact ⟨gh2, v, w2, .inl (hrun _ _ e1), e2, e3, e4⟩
            · simp at h
        · -- append to a slice without room
          rename_i es
          split at h
          · rename_i hall
            have hall' : ∀ x, x ∈ es → x.cells.length = sz := fun x hx => by have := List.all_eq_true.1 hall x hx; simpa using this
            have hxr := hρ x _ hx
            generalize hvx : ρ' x = vx at hxr hrun
            cases hxr with
            | full _ a n hl =>
              split at h
              · rename_i hne
                simp only [Option.some.injEq] at h; subst h
                have hne' : new = [] := by simpa using hne
                rcases hsrc with ⟨_, ad, c', hsy⟩ | ⟨b, o', cap, news, hsy, _⟩
                · rw [hsy] at hrun
                  exact ⟨gh, _, w, .inl (hrun _ _ (app_none hu hs (Nat.le_refl _))), Goes.refl _ _ _ _, M, .full _ _ _ hl⟩
                · rw [hsy, hne'] at hrun
                  exact ⟨gh, _, w, .inl (hrun _ _ (app_none hu hs (Nat.le_refl _))), Goes.refl _ _ _ _, M, .full _ _ _ hl⟩
              · rename_i hne
                split at h
                · rename_i hroom
                  simp only [Option.some.injEq] at h; subst h
                  rcases hsrc with ⟨h0, _⟩ | ⟨b, o', cap, news, hsy, hsrc⟩
                  · rw [h0] at hne; simp at hne
                  · rw [hsy] at hrun
                    have hpos : 0 < new.length := by
                      cases new with
                      | nil => simp at hne
                      | cons a r => simp
                    rcases lst_src hl hsz hall' with ⟨b1, o1, cap1, olds, q1, q2, q3⟩ | ⟨rfl, a1, cap1, q1⟩
                    · simp only [Value.slice.injEq] at q1
                      obtain ⟨rfl, rfl, rfl⟩ := q1
                      obtain ⟨gh2, v, w2, e1, e2, e3, e4⟩ := app_grow (P := P) (ty := o.type) M hu hs hi hzo hd hsz (es := es) (n := es.length) (cap := es.length) rfl rfl (olds := olds) q3.row (base := ⟨b1, o1, none⟩)
                        (fun j u hj => by rw [Addr.add_lit]; exact q3.at_ j u hj) hsrc (c' := cap) (by omega) hroom false (.inl rfl)
                      exact ⟨gh2, v, w2, .inl (hrun _ _ e1), e2, e3, e4⟩
                    · simp only [Value.slice.injEq] at q1
                      obtain ⟨rfl, rfl, rfl⟩ := q1
                      obtain ⟨gh2, v, w2, e1, e2, e3, e4⟩ := app_grow (P := P) (ty := o.type) M hu hs hi hzo hd hsz (es := []) (n := 0) (cap := 0) rfl rfl (olds := []) ⟨by simp, by simp, by simp⟩ (base := a1)
                        (by simp) hsrc (c' := cap) (by omega) (by simpa using hroom) false (.inl rfl)
                      exact ⟨gh2, v, w2, .inl (hrun _ _ e1), e2, e3, by simpa using e4⟩
                · simp at h
          · simp at h
        · -- append to a row of the call's own
          rename_i d' g' off n s'
          split at h
          · rename_i g'' es s'' lk hr
            split at h
            · rename_i hcond
              obtain ⟨rfl, rfl, rfl, hd', hle, hlk, hroom⟩ := hcond
              simp only [Option.some.injEq] at h; subst h
              have hxr := hρ x _ hx
              generalize hvx : ρ' x = vx at hxr hrun
              cases hxr with
              | own _ _ _ _ _ cap b o' hg hn hh =>
                have hlen : ((es.drop off).take n).length = n := by simp; omega
                obtain ⟨T1, M1⟩ := M.giveUp hd'
                have hgen : (tget tab d').gen = g'' := by rw [hr]; rfl
                rw [hgen] at T1 M1
                -- where it moves
                have moves : ∀ (bx ox cp : Nat) (news : List Value), ρ' y = .slice (some ⟨bx, ox, none⟩) new.length cp → Src gh H.next w new s' bx ox news → cap < n + new.length →
                    (∃ (olds : List Value) , RowRel gh H.next w ((es.drop off).take n) s' olds ∧ ∀ (j : Nat) (u : Value), olds[j]? = some u → w.cell? ((⟨b, o', none⟩ : Addr).add j) = some u) →
                    Stepped P E gh tab H w ρ' o ⟨.own d ((tget (tab.set d' (.gone g'')) d).gen + 1) 0 (n + new.length) s',
                      (tab.set d' (.gone g'')).set d (.row ((tget (tab.set d' (.gone g'')) d).gen + 1) ((es.drop off).take n ++ new) s' lk), H⟩ := by
                  intro bx ox cp news hsy hsrc hlt ⟨olds, q1, q2⟩
                  rw [hsy] at hrun
                  have q1' : RowRel gh H.next w ((es.drop off).take n) s' olds := q1
                  obtain ⟨gh2, v, w2, e1, e2, e3, e4⟩ := app_grow (P := P) (ty := o.type) M1 hu hs hi hzo (d := d) (by simpa using hd) hsz (es := (es.drop off).take n) (n := n) (cap := cap) hlen rfl (olds := olds)
                    ⟨q1.len, q1.size, fun i e j x v a b c => T1.v (q1.rel i e j x v a b c)⟩ (base := ⟨b, o', none⟩) q2
                    (new := new) (news := news) (b' := bx) (o' := ox) ⟨⟨hsrc.row.len, hsrc.row.size, fun i e j x v a b c => T1.v (hsrc.row.rel i e j x v a b c)⟩, hsrc.at_⟩ (c' := cp) hlt hroom lk (.inl rfl)
                  exact ⟨gh2, v, w2, .inl (hrun _ _ e1), T1.trans e2, e3, e4⟩
                rcases hh es lk hr with ⟨rfl, rfl, hrm⟩ | ⟨h0, hc0⟩
                · obtain ⟨olds, hold⟩ := row_src M hr hle
                  rcases hsrc with ⟨h0, ad, c', hsy⟩ | ⟨bx, ox, cp, news, hsy, hsrc⟩
                  · -- nothing comes
                    subst h0
                    rw [hsy] at hrun
                    obtain ⟨gh2, v, w2, e1, e2, e3, e4⟩ := app_place (P := P) (ty := o.type) M hu hs hd hsz hr hle hlk (new := []) (m := 0) rfl (b' := 0) (o' := 0) (news := []) (c' := 0) Src.nil (by simp) (by simpa using hn) hrm
                    have en := app_none (P := P) (w := w) (t := t) (e := e) (ty := o.type) (base := some ⟨gh.β d', gh.bo d' + off * s', none⟩) (n := n) (cap := cap) (a := ad) (c := c') hu hs hn
                    have en' := app_none (P := P) (w := w) (t := t) (e := e) (ty := o.type) (base := some ⟨gh.β d', gh.bo d' + off * s', none⟩) (n := n) (cap := cap) (a := some ⟨0, 0, none⟩) (c := 0) hu hs hn
                    rw [en'] at e1
                    cases e1
                    exact ⟨gh2, _, _, .inl (hrun _ _ en), e2, e3, e4⟩
                  · by_cases hfit : n + new.length ≤ cap
                    · rw [hsy] at hrun
                      obtain ⟨gh2, v, w2, e1, e2, e3, e4⟩ := app_place (P := P) (ty := o.type) M hu hs hd hsz hr hle hlk rfl hsrc (hone _ _ _ hsrc) (c' := cp) hfit hrm
                      exact ⟨gh2, _, _, .inl (hrun _ _ e1), e2, e3, e4⟩
                    · exact moves bx ox cp news hsy hsrc (by omega) ⟨olds, hold.row, fun j u hj => by rw [Addr.add_lit]; exact hold.at_ j u hj⟩
                · subst h0; subst hc0
                  rcases hsrc with ⟨h0, ad, c', hsy⟩ | ⟨bx, ox, cp, news, hsy, hsrc⟩
                  · subst h0
                    rw [hsy] at hrun
                    have hoe : off ≤ es.length := by omega
                    have hmo : off * s' ≤ es.length * s' := Nat.mul_le_mul_right _ hoe
                    obtain ⟨gh2, v, w2, e1, e2, e3, e4⟩ := app_place (P := P) (ty := o.type) M hu hs hd hsz hr hle hlk (new := []) (m := 0) rfl (cap := 0) (b' := 0) (o' := 0) (news := []) (c' := 0) Src.nil (by simp) (by omega) (by
                      obtain ⟨c, ct, h1, h2, h3, _⟩ := row_cells M hr
                      rw [Nat.add_zero]; omega)
                    have en' := app_none (P := P) (w := w) (t := t) (e := e) (ty := o.type) (base := some ⟨gh.β d', gh.bo d' + off * s', none⟩) (n := 0) (cap := 0) (a := some ⟨0, 0, none⟩) (c := 0) hu hs (Nat.le_refl _)
                    rw [en'] at e1
                    cases e1
                    refine ⟨gh2, _, _, .inl (hrun _ _ (app_none hu hs (Nat.le_refl _))), e2, e3, .own _ _ _ _ _ 0 b o' ?_ (Nat.le_refl _) fun _ _ _ => .inr ⟨rfl, rfl⟩⟩
                    rw [tget_set_same (by simpa using hd)]; exact Nat.le_refl _
                  · by_cases hnil : new = []
                    · subst hnil
                      rw [hsy] at hrun
                      have hoe : off ≤ es.length := by omega
                      have hmo : off * s' ≤ es.length * s' := Nat.mul_le_mul_right _ hoe
                      obtain ⟨gh2, v, w2, e1, e2, e3, e4⟩ := app_place (P := P) (ty := o.type) M hu hs hd hsz hr hle hlk (new := []) (m := 0) rfl (cap := 0) (b' := 0) (o' := 0) (news := []) (c' := 0) Src.nil (by simp) (by omega) (by
                        obtain ⟨c, ct, h1, h2, h3, _⟩ := row_cells M hr
                        rw [Nat.add_zero]; omega)
                      have en' := app_none (P := P) (w := w) (t := t) (e := e) (ty := o.type) (base := some ⟨gh.β d', gh.bo d' + off * s', none⟩) (n := 0) (cap := 0) (a := some ⟨0, 0, none⟩) (c := 0) hu hs (Nat.le_refl _)
                      rw [en'] at e1
                      cases e1
                      refine ⟨gh2, _, _, .inl (hrun _ _ (app_none hu hs (Nat.le_refl _))), e2, e3, .own _ _ _ _ _ 0 b o' ?_ (Nat.le_refl _) fun _ _ _ => .inr ⟨rfl, rfl⟩⟩
                      rw [tget_set_same (by simpa using hd)]; exact Nat.le_refl _
                    · have hpos : 0 < new.length := by
                        cases hnn : new with
                        | nil => exact absurd hnn hnil
                        | cons a r => simp
                      exact moves bx ox cp news hsy hsrc (by omega) ⟨[], ⟨by simp, by simp, by simp⟩, by simp⟩
            · simp at h
          · simp at h
        · simp at h
      · simp at h
    · simp at h
  · simp at h

/-- the elements of a part of a row become others -/
theorem seg_get {es ns : List VV} {off i : Nat} {a : VV} (hle : off + ns.length ≤ es.length) (h : (es.take off ++ ns ++ es.drop (off + ns.length))[i]? = some a) :
    (off ≤ i ∧ i < off + ns.length ∧ ns[i - off]? = some a) ∨ ((i < off ∨ off + ns.length ≤ i) ∧ es[i]? = some a) := by
  rw [← putCells_eq _ _ _ hle, putCells_get _ _ _ _ hle] at h
  by_cases hi : off ≤ i ∧ i < off + ns.length
  · rw [if_pos hi] at h; exact .inl ⟨hi.1, hi.2, h⟩
  · rw [if_neg hi] at h; exact .inr ⟨by omega, h⟩

theorem seg_write (M : Mem E gh tab H w) {d g sz off : Nat} {es ns : List VV} {news : List Value} (hr : tget tab d = .row g es sz false) (hle : off + ns.length ≤ es.length) (hn : RowRel gh H.next w ns sz news) :
    ∃ (c : Array Value) (ct : TypeId), w.heap[gh.β d]? = some (.cells c ct (0, 0)) ∧ gh.bo d + off * sz + news.length ≤ c.size ∧
      Goes gh tab H.next w gh (tab.set d (.row g (es.take off ++ ns ++ es.drop (off + ns.length)) sz false)) H.next (w.setRow (gh.β d) (putCells c.toList (gh.bo d + off * sz) news).toArray) ∧
      Mem E gh (tab.set d (.row g (es.take off ++ ns ++ es.drop (off + ns.length)) sz false)) H (w.setRow (gh.β d) (putCells c.toList (gh.bo d + off * sz) news).toArray) := by
  have hact : (tget tab d).active = true := by rw [hr]; rfl
  obtain ⟨c, ct, h1, h2, h3, h4, h5, h6, h7⟩ := row_cells M hr
  have hT := M.tabR d
  rw [hr] at hT
  obtain ⟨_, _, _, _, _, _, _, hown, hlkG, _, _⟩ := hT
  have hG := hlkG rfl
  have hmul : (off + ns.length) * sz ≤ es.length * sz := Nat.mul_le_mul_right _ hle
  rw [Nat.add_mul] at hmul
  have hnl := hn.len
  have hfit : gh.bo d + off * sz + news.length ≤ c.toList.length := by simp; omega
  refine ⟨c, ct, h1, by simpa using hfit, ?_⟩
  have hlen : (es.take off ++ ns ++ es.drop (off + ns.length)).length = es.length := by rw [← putCells_eq _ _ _ hle, putCells_len]
  refine M.write hact (by rw [hr]; exact .inr ⟨rfl, rfl⟩) rfl (by rw [hr]; rfl) h1 (fun o ho => by omega) fun T hb => ?_
  refine ⟨_, ct, hb, by simp [putCells_len, h2], by rw [hlen]; simp [putCells_len]; omega, fun i a hi => ?_, fun i a j y v hi hj hv => ?_, hown, fun _ => hG, by rw [hG]; exact Nat.zero_le _, h7⟩
  · rcases seg_get hle hi with ⟨_, _, h⟩ | ⟨_, h⟩
    · exact hn.size _ a h
    · exact h4 _ a h
  · have hv' : (putCells c.toList (gh.bo d + off * sz) news)[gh.bo d + i * sz + j]? = some v := by simpa using hv
    rw [putCells_get _ _ _ _ hfit] at hv'
    rcases seg_get hle hi with ⟨q1, q2, h⟩ | ⟨q, h⟩
    · have hal := hn.size _ a h
      have hjl : j < sz := by have := (List.getElem?_eq_some_iff.1 hj).1; rw [hal] at this; exact this
      have e1 : i * sz = off * sz + (i - off) * sz := by rw [← Nat.add_mul]; congr 1; omega
      have hle2 : (i - off + 1) * sz ≤ ns.length * sz := Nat.mul_le_mul_right _ (by omega)
      rw [Nat.add_mul, Nat.one_mul] at hle2
      rw [if_pos (by omega)] at hv'
      have e2 : gh.bo d + i * sz + j - (gh.bo d + off * sz) = (i - off) * sz + j := by omega
      rw [e2] at hv'
      exact T.v (hn.rel _ a j y v h hj hv')
    · have hal := h4 _ a h
      have hjl : j < sz := by have := (List.getElem?_eq_some_iff.1 hj).1; rw [hal] at this; exact this
      rw [if_neg] at hv'
      · obtain ⟨a1, a2, a3⟩ := h5 _ a j y h hj
        have hv2 : c[gh.bo d + i * sz + j]? = some v := by simpa using hv'
        rw [a2] at hv2
        simp only [Option.some.injEq] at hv2
        rw [← hv2]; exact T.v a3
      · rintro ⟨p1, p2⟩
        rcases q with q | q
        · have : (i + 1) * sz ≤ off * sz := Nat.mul_le_mul_right _ q
          rw [Nat.add_mul, Nat.one_mul] at this
          omega
        · have : (off + ns.length) * sz ≤ i * sz := Nat.mul_le_mul_right _ q
          rw [Nat.add_mul] at this
          omega

theorem set_tget {tab : List TC} {d : Nat} {x : TC} (h : tget tab d = x) : tab.set d x = tab := by
  apply List.ext_getElem?
  intro k
  rw [List.getElem?_set]
  split
  · rename_i hk
    subst hk
    split
    · rename_i hl
      simp [tget, hl] at h
      rw [List.getElem?_eq_getElem hl, h]
    · rename_i hl
      rw [List.getElem?_eq_none (by omega)]
  · rfl

theorem copyV_run (M : Mem E gh tab H w) {ρ : Operand → Option SV} {ρ' : Operand → Value} (hρ : ∀ x s, ρ x = some s → SRel gh tab H.next w s (ρ' x)) {o : Oper} {c : Call} {x y : Operand} {t : TypeId} {s : St}
    (ho : o.op = .call c) (hc : c.callee = .builtin .copy) (ha : c.args.toList = [x, y]) (ht : c.argTypes.toList = [t, t]) (h : copyV P t (ρ x) (ρ y) tab H = some s) : Stepped P E gh tab H w ρ' o s := by
  have hrun : ∀ r w', (Builtin.copy_ #[t, t] o.type #[ρ' x, ρ' y]).run P w = .ok r w' → (execOp ρ' o).run P w = .ok (.value r) w' := by
    intro r w' hr
    rw [builtin_run ho hc, arr2 ha, arr2 ht]
    simp only [builtin, List.map_toArray, List.map_cons, List.map_nil, Sem.run_bind]
    rw [hr]
    rfl
  unfold copyV at h
  split at h
  · rename_i d g off n s' sy e hx hy he
    split at h
    · rename_i sz new g' es sz' hs hadd hr
      have hu := elemOf_some he
      split at h
      · rename_i hcond
        obtain ⟨rfl, rfl, rfl, rfl, hle, hok⟩ := hcond
        simp only [Option.some.injEq] at h; subst h
        have hsrc := added_src M (hρ y _ hy) hadd hok (by omega)
        have hxr := hρ x _ hx
        generalize hvx : ρ' x = vx at hxr hrun
        cases hxr with
        | own _ _ _ _ _ cap b o' hg hn hh =>
          have hs1 : (P.info? e).map (·.size) = some 1 := hs
          -- nothing is copied
          have none_ : ∀ (ad : Option Addr) (m c' : Nat), ρ' y = .slice ad m c' → m = new.length → Nat.min m n = 0 →
              Stepped P E gh tab H w ρ' o ⟨.val (.int .i64 ((min new.length n : Nat) : Int)), tab.set d (.row g' (es.take off ++ new.take (min new.length n) ++ es.drop (off + min new.length n)) 1 false), H⟩ := by
            intro ad m c' hsy hm h0
            subst hm
            have h0' : min new.length n = 0 := h0
            have he : es.take off ++ new.take (min new.length n) ++ es.drop (off + min new.length n) = es := by rw [h0']; simp
            rw [he, set_tget hr, h0']
            rw [hsy] at hrun
            refine ⟨gh, _, w, .inl (hrun (goInt 0) w ?_), Goes.refl _ _ _ _, M, .val _ _ (.int _ _)⟩
            cases hq : P.info? e with
            | none => simp [hq] at hs1
            | some i =>
              have hf : (Builtin.firstCells i.size 0 (.slice ad new.length c')).run P w = .ok #[] w := by
                cases ad <;> simp [Builtin.firstCells, loadCells, loadCellsFrom]
              simp [Builtin.copy_, run_underlying hu, Builtin.lenOf, sizeOf, typeInfo, hq, h0, hf, storeCells]
          rcases hsrc with ⟨h0, ad, c', hsy⟩ | ⟨bx, ox, cp, news, hsy, hsrc⟩
          · subst h0
            exact none_ ad 0 c' hsy rfl (by simp)
          · by_cases h0 : Nat.min new.length n = 0
            · exact none_ _ _ _ hsy rfl h0
            · rcases hh es false hr with ⟨rfl, rfl, hrm⟩ | ⟨z1, z2⟩
              · have hml : min new.length n ≤ new.length := Nat.min_le_left _ _
                have hmn : min new.length n ≤ n := Nat.min_le_right _ _
                have htl : (new.take (min new.length n)).length = min new.length n := by simp
                have hnl := hsrc.row.len
                rw [Nat.mul_one] at hnl
                have hrow : RowRel gh H.next w (new.take (min new.length n)) 1 (news.take (min new.length n)) := by
                  refine ⟨by simp; omega, fun i a hi => ?_, fun i a j y v hi hj hv => ?_⟩
                  · rw [List.getElem?_take] at hi
                    split at hi
                    · exact hsrc.row.size i a hi
                    · simp at hi
                  · rw [List.getElem?_take] at hi hv
                    split at hi
                    · split at hv
                      · exact hsrc.row.rel i a j y v hi hj hv
                      · simp at hv
                    · simp at hi
                obtain ⟨cc, ct, k1, k2, T, M'⟩ := seg_write M (off := off) (ns := new.take (min new.length n)) hr (by rw [htl]; omega) hrow
                rw [htl] at T M'
                rw [hsy] at hrun
                have hcl : (news.take (min new.length n)).length = Nat.min new.length n := by rw [List.length_take]; show min (min new.length n) news.length = min new.length n; omega
                have hcopy := run_copy_row (P := P) w t t o.type e (gh.β d) (gh.bo d + off * 1) n cap ⟨bx, ox, none⟩ new.length cp cc ct (news.take (min new.length n)) hu hs1 k1 hcl
                  (fun j v hj => by
                    rw [Addr.add_lit]
                    rw [List.getElem?_take] at hj
                    split at hj
                    · exact hsrc.at_ j v hj
                    · simp at hj)
                  (by omega) (fun v hv => okElem_one hsrc.row hok (by omega) v (List.mem_of_mem_take hv))
                rw [← putCells_eq _ _ _ (by simpa using k2)] at hcopy
                refine ⟨gh, _, _, .inl (hrun _ _ hcopy), T, M', ?_⟩
                rw [hcl]
                exact .val _ _ (.int _ _)
              · subst z1
                exact absurd (by simp) h0
      · simp at h
    · simp at h
  · simp at h

theorem clearV_run (M : Mem E gh tab H w) {ρ : Operand → Option SV} {ρ' : Operand → Value} (hρ : ∀ x s, ρ x = some s → SRel gh tab H.next w s (ρ' x)) {o : Oper} {c : Call} {x : Operand} {t : TypeId} {s : St}
    (ho : o.op = .call c) (hc : c.callee = .builtin .clear) (ha : c.args.toList = [x]) (ht : c.argTypes.toList = [t]) (h : clearV P t (ρ x) tab H = some s) : Stepped P E gh tab H w ρ' o s := by
  have hrun : ∀ r w', (Builtin.clear_ #[t] o.type #[ρ' x]).run P w = .ok r w' → (execOp ρ' o).run P w = .ok (.value r) w' := by
    intro r w' hr
    rw [builtin_run ho hc, arr1 ha, arr1 ht]
    simp only [builtin, List.map_toArray, List.map_cons, List.map_nil, Sem.run_bind]
    rw [hr]
    rfl
  unfold clearV at h
  split at h
  · rename_i d g off n s' e hx he
    split at h
    · rename_i sz z g' es sz' hs hz hr
      have hu := elemOf_some he
      split at h
      · rename_i hcond
        obtain ⟨rfl, rfl, rfl, hok, hle⟩ := hcond
        simp only [Option.some.injEq] at h; subst h
        obtain ⟨v, hzr, hzv⟩ := zero_rel hz
        have hxr := hρ x _ hx
        generalize hvx : ρ' x = vx at hxr hrun
        obtain ⟨_, _, _, _, _, _, _, _, hsz⟩ := row_cells M hr
        have hzl : z.cells.length = s' := by simp only [okElem, Bool.and_eq_true, beq_iff_eq] at hok; exact hok.1
        cases hxr with
        | own _ _ _ _ _ cap b o' hg hn hh =>
          by_cases h0 : n = 0
          · subst h0
            have he : es.take off ++ List.replicate 0 z ++ es.drop (off + 0) = es := by simp
            rw [he, set_tget hr]
            refine ⟨gh, _, w, .inl (hrun (.tuple #[]) w ?_), Goes.refl _ _ _ _, M, .val _ _ .undef⟩
            simp [Builtin.clear_, run_underlying hu]
          · rcases hh es false hr with ⟨rfl, rfl, hrm⟩ | ⟨z1, z2⟩
            · have hrow := zeros_rel (hzv w gh H.next) hzl hsz n
              have hvc : v.cells.size = s' := by have := (hzv w gh H.next).cells.len; simp at this; omega
              have hrl : (List.replicate n z).length = n := by simp
              obtain ⟨cc, ct, k1, k2, T, M'⟩ := seg_write M (off := off) (ns := List.replicate n z) hr (by rw [hrl]; exact hle) hrow
              rw [hrl] at T M'
              have hone : ∀ u, u ∈ ((Array.range (n * s')).map (v.cells[· % v.cells.size]!)).toList → u.oneCell' = true := okElem_one hrow (by
                rw [List.all_eq_true]; intro a ha; rw [List.eq_of_mem_replicate ha]; exact hok) hsz
              have hst := run_storeCells_at P (gh.β d) (gh.bo d + off * s') ct ((Array.range (n * s')).map (v.cells[· % v.cells.size]!)).toList 0 cc w k1 (by simpa using k2) hone
              simp only [Nat.add_zero] at hst
              rw [← putCells_eq _ _ _ (by simpa using k2)] at hst
              refine ⟨gh, _, _, .inl (hrun (.tuple #[]) _ ?_), T, M', .val _ _ .undef⟩
              have hzc : Builtin.zeroCells v.cells n = (Array.range (n * s')).map (v.cells[· % v.cells.size]!) := by simp only [Builtin.zeroCells, hvc]
              cases n with
              | zero => exact absurd rfl h0
              | succ n =>
                simp only [Builtin.clear_, List.getElem?_toArray, List.getElem?_cons_zero, Sem.run_bind, run_underlying hu, Result.andThen_ok, hzr, hzc, hst, Sem.run_pure]
            · exact absurd z1 h0
      · simp at h
    · simp at h
  · simp at h

end
end Go.Vi

/-
  Arguments and results.
-/
namespace Go.Vi
set_option linter.unusedVariables false
set_option linter.unusedSimpArgs false

/-- a row, or a variable, that is handed over: its block, where it begins, the block's size -/
structure RowIn (gh : Gh) (nx : Nat) (w : World) (es : List VV) (sz b o s : Nat) : Prop where
  pos : 0 < sz
  ex : ∃ (c : Array Value) (ty : TypeId), w.heap[b]? = some (.cells c ty (0, 0)) ∧ c.size = s ∧ o + es.length * sz ≤ s ∧ (∀ (i : Nat) (e : VV), es[i]? = some e → e.cells.length = sz) ∧
    ∀ (i : Nat) (e : VV) (j : Nat) (x : VV) (v : Value), es[i]? = some e → e.cells[j]? = some x → c[o + i * sz + j]? = some v → VR gh nx w x v

structure BoxIn (gh : Gh) (nx : Nat) (w : World) (cs : List VV) (b : Nat) : Prop where
  ex : ∃ (c : Array Value) (ty : TypeId), w.heap[b]? = some (.cells c ty (0, 0)) ∧ c.size = cs.length ∧ ∀ (i : Nat) (x : VV) (v : Value), cs[i]? = some x → c[i]? = some v → VR gh nx w x v

abbrev Place := Nat × Nat × Nat

/-- an argument, or a cell of a result, as the model has it -/
inductive ARel (gh : Gh) (nx : Nat) (w : World) : RV → Value → Option Place → Prop
  | val (u : VV) (x : Value) (h : VR gh nx w u x) : ARel gh nx w (.val u) x none
  | full (es : List VV) (a : Option Addr) (n : Nat) (h : VR gh nx w (.lst es) (.slice a n n)) : ARel gh nx w (.full es) (.slice a n n) none
  | own (es : List VV) (n sz b o s b' o' cap : Nat) (hl : n = es.length) (h : RowIn gh nx w es sz b o s) (hn : n ≤ cap) (ha : (b' = b ∧ o' = o ∧ o + cap * sz ≤ s) ∨ (n = 0 ∧ cap = 0)) :
      ARel gh nx w (.own es sz) (.slice (some ⟨b', o', none⟩) n cap) (some (b, o, s))
  | box (cs : List VV) (off b s : Nat) (h : BoxIn gh nx w cs b) : ARel gh nx w (.box cs off) (.pointer (some ⟨b, off, none⟩)) (some (b, 0, s))

section
variable {E : En} {gh : Gh} {tab : List TC} {H : Hp} {w : World} {nx : Nat}

theorem RowIn.goes {gh' : Gh} {tab' : List TC} {nx' : Nat} {w' : World} {es : List VV} {sz b o s : Nat} (T : Goes gh tab nx w gh' tab' nx' w') (hw : w'.heap[b]? = w.heap[b]?)
    (h : RowIn gh nx w es sz b o s) : RowIn gh' nx' w' es sz b o s := by
  obtain ⟨p, ⟨c, ty, h1, h2, h3, h4, h5⟩⟩ := h
  exact ⟨p, ⟨c, ty, by rw [hw]; exact h1, h2, h3, h4, fun i e j x v a b c => T.v (h5 i e j x v a b c)⟩⟩

theorem BoxIn.goes {gh' : Gh} {tab' : List TC} {nx' : Nat} {w' : World} {cs : List VV} {b : Nat} (T : Goes gh tab nx w gh' tab' nx' w') (hw : w'.heap[b]? = w.heap[b]?)
    (h : BoxIn gh nx w cs b) : BoxIn gh' nx' w' cs b := by
  obtain ⟨⟨c, ty, h1, h2, h3⟩⟩ := h
  exact ⟨⟨c, ty, by rw [hw]; exact h1, h2, fun i x v a b => T.v (h3 i x v a b)⟩⟩

theorem ARel.goes {gh' : Gh} {tab' : List TC} {nx' : Nat} {w' : World} {r : RV} {v : Value} {p : Option Place} (T : Goes gh tab nx w gh' tab' nx' w')
    (hb : ∀ b o s, p = some (b, o, s) → w'.heap[b]? = w.heap[b]?) (h : ARel gh nx w r v p) : ARel gh' nx' w' r v p := by
  cases h with
  | val u x h => exact .val _ _ (T.v h)
  | full es a n h => exact .full _ _ _ (T.v h)
  | own es n sz b o s b' o' cap hl h hn ha => exact .own es n sz b o s b' o' cap hl (h.goes T (hb b o s rfl)) hn ha
  | box cs off b s h => exact .box cs off b s (h.goes T (hb b 0 _ rfl))

/-- a row of the call's own, as one that is handed over -/
theorem row_in (M : Mem E gh tab H w) {d g off n sz : Nat} {es : List VV} {lk : Bool} (hr : tget tab d = .row g es sz lk) (hle : off + n ≤ es.length) :
    RowIn gh H.next w ((es.drop off).take n) sz (gh.β d) (gh.bo d + off * sz) (gh.bs d) := by
  have hT := M.tabR d
  rw [hr] at hT
  obtain ⟨c, ty, h1, h2, h3, h4, h5, hown, hlkG, h8, h9⟩ := hT
  have hmul : (off + n) * sz ≤ es.length * sz := Nat.mul_le_mul_right _ hle
  rw [Nat.add_mul] at hmul
  have hlen : ((es.drop off).take n).length = n := by simp; omega
  refine ⟨h9, ⟨c, ty, h1, h2, by rw [hlen]; omega, fun i e hi => h4 _ e (sub_get hi), fun i e j x v hi hj hv => ?_⟩⟩
  refine h5 _ e j x v (sub_get hi) hj ?_
  rw [Nat.add_mul, ← Nat.add_assoc]; exact hv

theorem row_G (M : Mem E gh tab H w) {d g sz : Nat} {es : List VV} (hr : tget tab d = .row g es sz false) : gh.G (gh.β d) = 0 := by
  have hT := M.tabR d
  rw [hr] at hT
  obtain ⟨c, ty, h1, h2, h3, h4, h5, hown, hlkG, h8, h9⟩ := hT
  exact hlkG rfl

/-- how an argument is handed over -/
inductive Hand where
  | no
  | taken (d o : Nat)
  | lent (l : Lent)

def Hand.tk : Hand → Option Nat
  | .taken d _ => some d
  | _ => none
def Hand.ln : Hand → Option Lent
  | .lent l => some l
  | _ => none

/-- more is known by others, some rows are given away -/
structure Given (E : En) (H : Hp) (w : World) (gh : Gh) (tab : List TC) (gh' : Gh) (tab' : List TC) (ks : List Nat) : Prop where
  goes : Goes gh tab H.next w gh' tab' H.next w
  mem : Mem E gh' tab' H w
  same : gh'.μ = gh.μ ∧ gh'.β = gh.β ∧ gh'.bo = gh.bo ∧ gh'.bs = gh.bs
  len : tab'.length = tab.length
  gone : ∀ d, d ∈ ks → (tget tab d).active = true ∧ (tget tab' d).active = false
  nodup : ks.Nodup
  ent : ∀ d, d ∉ ks → (tget tab d).same (tget tab' d)
  G : ∀ b, (∀ d, (tget tab d).active = true → gh.β d ≠ b) → gh'.G b = gh.G b
  Gk : ∀ d, d ∈ ks → gh'.G (gh.β d) = 0

theorem Given.of_marks {gh' : Gh} {tab' : List TC} (h : Marks E H w gh tab gh' tab') : Given E H w gh tab gh' tab' [] :=
  ⟨h.goes, h.mem, h.same, h.len, fun d hd => by simp at hd, .nil, fun d _ => h.ent d, h.G, fun d hd => by simp at hd⟩

theorem Given.trans {gh1 gh2 : Gh} {tab1 tab2 : List TC} {k1 k2 : List Nat} (M : Mem E gh tab H w) (h : Given E H w gh tab gh1 tab1 k1) (h' : Given E H w gh1 tab1 gh2 tab2 k2) :
    Given E H w gh tab gh2 tab2 (k1 ++ k2) := by
  have e1 := h.same
  have e2 := h'.same
  have act : ∀ d, (tget tab1 d).active = true → (tget tab d).active = true := fun d hd => by
    by_cases hk : d ∈ k1
    · exact (h.gone d hk).1
    · rw [← (h.ent d hk).act.1]; exact hd
  have out1 : ∀ d, d ∈ k1 → ∀ k, (tget tab1 k).active = true → gh1.β k ≠ gh.β d := fun d hd k hk => by
    rw [e1.2.1]
    have hne : k ≠ d := fun e => by subst e; rw [(h.gone k hd).2] at hk; cases hk
    exact M.apart k d hne (act k hk) (h.gone d hd).1
  refine ⟨h.goes.trans h'.goes, h'.mem, ⟨e2.1.trans e1.1, e2.2.1.trans e1.2.1, e2.2.2.1.trans e1.2.2.1, e2.2.2.2.trans e1.2.2.2⟩, h'.len.trans h.len, fun d hd => ?_, ?_, fun d hd => ?_, fun b hb => ?_, fun d hd => ?_⟩
  · rw [List.mem_append] at hd
    rcases hd with hd | hd
    · refine ⟨(h.gone d hd).1, ?_⟩
      by_cases hk : d ∈ k2
      · exact (h'.gone d hk).2
      · rw [(h'.ent d hk).act.1]; exact (h.gone d hd).2
    · exact ⟨act d (h'.gone d hd).1, (h'.gone d hd).2⟩
  · rw [List.nodup_append]
    refine ⟨h.nodup, h'.nodup, fun a ha b hb e => ?_⟩
    subst e
    have := (h.gone a ha).2
    rw [(h'.gone a hb).1] at this; cases this
  · rw [List.mem_append, not_or] at hd
    exact (h.ent d hd.1).trans (h'.ent d hd.2)
  · rw [h'.G b (fun d hd => by rw [e1.2.1]; exact hb d (act d hd)), h.G b hb]
  · rw [List.mem_append] at hd
    by_cases hk : d ∈ k1
    · rw [h'.G _ (fun k hk' => out1 d hk k hk'), h.Gk d hk]
    · have hd2 := hd.resolve_left hk
      have := h'.Gk d hd2
      rw [e1.2.1] at this
      exact this

theorem Given.act {gh' : Gh} {tab' : List TC} {ks : List Nat} (h : Given E H w gh tab gh' tab' ks) {d : Nat} (hd : (tget tab' d).active = true) : (tget tab d).active = true := by
  by_cases hk : d ∈ ks
  · exact (h.gone d hk).1
  · rw [← (h.ent d hk).act.1]; exact hd

def Lent.pl (gh : Gh) : Lent → Place
  | .row d _ => (gh.β d, gh.bo d, gh.bs d)
  | .box d _ => (gh.β d, 0, gh.bs d)

def Hand.pl (gh : Gh) : Hand → Option Place
  | .no => none
  | .taken d o => some (gh.β d, o, gh.bs d)
  | .lent l => some (l.pl gh)

/-- what an argument is, with the way in which it is handed over -/
inductive HRel (gh : Gh) (tab : List TC) (nx : Nat) (w : World) : RV → Value → Hand → Prop
  | no (r : RV) (v : Value) (h : ARel gh nx w r v none) : HRel gh tab nx w r v .no
  | taken (r : RV) (v : Value) (d o : Nat) (h : ARel gh nx w r v (some (gh.β d, o, gh.bs d))) : HRel gh tab nx w r v (.taken d o)
  | row (es : List VV) (sz d g : Nat) (lk : Bool) (v : Value) (hr : tget tab d = .row g es sz lk) (h : ARel gh nx w (.own es sz) v (some (gh.β d, gh.bo d, gh.bs d))) : HRel gh tab nx w (.own es sz) v (.lent (.row d g))
  | box (vs : List VV) (off d g : Nat) (cs : List SV) (wr : Bool) (v : Value) (hr : tget tab d = .box g cs wr) (hl : vs.length = cs.length) (h : ARel gh nx w (.box vs off) v (some (gh.β d, 0, gh.bs d))) :
      HRel gh tab nx w (.box vs off) v (.lent (.box d g))

theorem HRel.arel {r : RV} {v : Value} {h : Hand} (hr : HRel gh tab nx w r v h) : ARel gh nx w r v (h.pl gh) := by
  cases hr <;> assumption

theorem HRel.given {gh' : Gh} {tab' : List TC} {ks : List Nat} {r : RV} {v : Value} {h : Hand} (K : Given E H w gh tab gh' tab' ks) (hk : ∀ l, h = .lent l → l.key ∉ ks) (hr : HRel gh tab H.next w r v h) :
    HRel gh' tab' H.next w r v h := by
  have e := K.same
  cases hr with
  | no r v h => exact .no r v (h.goes K.goes fun _ _ _ _ => rfl)
  | taken r v d o h => exact .taken r v d o (by rw [e.2.1, e.2.2.2]; exact h.goes K.goes fun _ _ _ _ => rfl)
  | row es sz d g lk v hr h =>
    have hent := K.ent d (hk _ rfl)
    rw [hr] at hent
    have : ∃ lk', tget tab' d = .row g es sz lk' := by
      cases hx : tget tab' d <;> rw [hx] at hent <;> first | exact hent.elim | (obtain ⟨rfl, rfl, rfl⟩ := hent; exact ⟨_, rfl⟩)
    obtain ⟨lk', hr'⟩ := this
    exact .row es sz d g lk' v hr' (by rw [e.2.1, e.2.2.1, e.2.2.2]; exact h.goes K.goes fun _ _ _ _ => rfl)
  | box vs off d g cs wr v hr hl h =>
    have hent := K.ent d (hk _ rfl)
    rw [hr] at hent
    have : ∃ wr', tget tab' d = .box g cs wr' := by
      cases hx : tget tab' d <;> rw [hx] at hent <;> first | exact hent.elim | (obtain ⟨rfl, rfl⟩ := hent; exact ⟨_, rfl⟩)
    obtain ⟨wr', hr'⟩ := this
    exact .box vs off d g cs wr' v hr' hl (by rw [e.2.1, e.2.2.2]; exact h.goes K.goes fun _ _ _ _ => rfl)

theorem outArg_run (M : Mem E gh tab H w) {m : Nat} {x : SV} {v : Value} {r : RV} {tab' : List TC} {l : List Lent} (h : SRel gh tab H.next w x v) (ho : outArg m tab x = some (r, tab', l)) :
    ∃ gh' hd, Given E H w gh tab gh' tab' (hd.tk.toList) ∧ HRel gh' tab' H.next w r v hd ∧ hd.ln.toList = l ∧ (∀ l', hd = .lent l' → (tget tab l'.key).active = true) ∧ ((m = 2 ∧ isOwned r = true) ↔ hd.ln.isSome = true) ∧ (hd.tk.isSome = true → m = 1 ∧ isOwnS x = true) := by
  have plain : (outT tab x).map (fun (u, t) => ((RV.val u, t, []) : RV × List TC × List Lent)) = some (r, tab', l) →
      ∃ gh' hd, Given E H w gh tab gh' tab' (hd.tk.toList) ∧ HRel gh' tab' H.next w r v hd ∧ hd.ln.toList = l ∧ (∀ l', hd = .lent l' → (tget tab l'.key).active = true) ∧ ((m = 2 ∧ isOwned r = true) ↔ hd.ln.isSome = true) ∧ (hd.tk.isSome = true → m = 1 ∧ isOwnS x = true) := by
    intro ho
    cases hx : outT tab x with
    | none => simp [hx] at ho
    | some y =>
      obtain ⟨u, t⟩ := y
      simp [hx] at ho
      obtain ⟨rfl, rfl, rfl⟩ := ho
      obtain ⟨gh', K, hr⟩ := outT_run M h hx
      exact ⟨gh', .no, Given.of_marks K, .no _ _ (.val _ _ hr), rfl, (fun l' e => by cases e), by simp [isOwned, Hand.ln], by simp [Hand.tk]⟩
  unfold outArg at ho
  split at ho
  · -- given away
    rename_i d g off n s
    split at ho
    · rename_i g' es sz hr
      split at ho
      · rename_i hc
        obtain ⟨rfl, rfl, hle⟩ := hc
        simp only [Option.some.injEq, Prod.mk.injEq] at ho
        obtain ⟨rfl, rfl, rfl⟩ := ho
        have hact : (tget tab d).active = true := by rw [hr]; rfl
        have hdl := tget_lt hact
        obtain ⟨T, M'⟩ := M.giveUp hdl
        have hgen : (tget tab d).gen = g' := by rw [hr]; rfl
        rw [hgen] at T M'
        refine ⟨gh, .taken d (gh.bo d + off * s), ⟨T, M', ⟨rfl, rfl, rfl, rfl⟩, by simp, fun k hk => ?_, by simp [Hand.tk], fun k hk => ?_, fun _ _ => rfl, fun k hk => ?_⟩, .taken _ _ d (gh.bo d + off * s) ?_, rfl, (fun l' e => by cases e), by simp [Hand.ln], fun _ => ⟨rfl, rfl⟩⟩
        · simp [Hand.tk] at hk; subst hk
          exact ⟨hact, by rw [tget_set_same hdl]; rfl⟩
        · simp [Hand.tk] at hk
          rw [tget_set_ne hk]; exact TC.same.refl _
        · simp [Hand.tk] at hk; subst hk
          exact row_G M hr
        · cases h with
          | own _ _ _ _ _ cap b o hg hn hh =>
            have hlen : ((es.drop off).take n).length = n := by simp; omega
            refine .own _ n s _ _ _ b o cap hlen.symm (row_in M hr hle) hn ?_
            rcases hh es false hr with ⟨a1, a2, a3⟩ | a
            · exact .inl ⟨a1, a2, by rw [Nat.add_mul] at a3; omega⟩
            · exact .inr a
      · simp at ho
    · simp at ho
  · -- a row is lent
    rename_i d g off n s
    split at ho
    · rename_i g' es sz hr
      split at ho
      · rename_i hc
        obtain ⟨rfl, rfl, rfl, rfl⟩ := hc
        simp only [Option.some.injEq, Prod.mk.injEq] at ho
        obtain ⟨rfl, rfl, rfl⟩ := ho
        refine ⟨gh, .lent (.row d g'), Given.of_marks (Marks.refl M), .row _ _ d g' false _ hr ?_, rfl, (fun l' e => by cases e; show (tget tab d).active = true; rw [hr]; rfl), by simp [isOwned, Hand.ln], by simp [Hand.tk]⟩
        cases h with
        | own _ _ _ _ _ cap b o hg hn hh =>
          have hin := row_in M (off := 0) (n := es.length) hr (by omega)
          simp only [List.drop_zero, List.take_length, Nat.zero_mul, Nat.add_zero] at hin
          refine .own _ _ s _ _ _ b o cap rfl hin hn ?_
          rcases hh es false hr with ⟨a1, a2, a3⟩ | a
          · exact .inl ⟨a1, by omega, by rw [Nat.zero_add] at a3; exact a3⟩
          · exact .inr a
      · simp at ho
    · simp at ho
  · -- a variable is lent
    rename_i d g off
    split at ho
    · rename_i g' cs hr
      split at ho
      · rename_i hc
        subst hc
        split at ho
        · rename_i vs t1 hall
          simp only [Option.some.injEq, Prod.mk.injEq] at ho
          obtain ⟨rfl, rfl, rfl⟩ := ho
          obtain ⟨c, ty, h1, h2, h3, h4⟩ := box_cells M hr
          have hss : SsRel gh tab H.next w cs c.toList := ⟨by simpa using h2, fun i x u hx hu => by
            obtain ⟨a1, a2⟩ := h3 i x hx
            have hu' : c[i]? = some u := by simpa using hu
            rw [a1] at hu'
            simp only [Option.some.injEq] at hu'
            rw [← hu']; exact a2⟩
          obtain ⟨gh', K, hv⟩ := outAll_run M hss hall
          have hvl := outAll_len hall
          have hent := K.ent d
          rw [hr] at hent
          have : ∃ wr', tget t1 d = .box g' cs wr' := by
            cases hx : tget t1 d <;> rw [hx] at hent <;> first | exact hent.elim | (obtain ⟨rfl, rfl⟩ := hent; exact ⟨_, rfl⟩)
          obtain ⟨wr', hr'⟩ := this
          refine ⟨gh', .lent (.box d g'), Given.of_marks K, .box vs off d g' cs wr' _ hr' hvl ?_, rfl, (fun l' e => by cases e; show (tget tab d).active = true; rw [hr]; rfl), by simp [isOwned, Hand.ln], by simp [Hand.tk]⟩
          cases h with
          | loc _ _ _ b o hg hh =>
            obtain ⟨rfl, rfl⟩ := hh cs true hr
            rw [K.same.2.1]
            exact .box vs o _ _ ⟨c, ty, h1, by omega, fun i x v hx hv' => hv.rel i x v hx (by simpa using hv')⟩
        · simp at ho
      · simp at ho
    · simp at ho
  · -- a slice without room
    rename_i es
    simp only [Option.some.injEq, Prod.mk.injEq] at ho
    obtain ⟨rfl, rfl, rfl⟩ := ho
    cases h with
    | full _ a n h => exact ⟨gh, .no, Given.of_marks (Marks.refl M), .no _ _ (.full _ _ _ h), rfl, (fun l' e => by cases e), by simp [isOwned, Hand.ln], by simp [Hand.tk]⟩
  · exact plain ho

theorem outArgs_run {mode : Nat → Nat} : ∀ {l : List SV} {k : Nat} {gh : Gh} {tab : List TC} {vs : List Value} {rs : List RV} {tab' : List TC} {ln : List Lent}, Mem E gh tab H w → SsRel gh tab H.next w l vs →
    outArgs mode tab k l = some (rs, tab', ln) →
    ∃ (gh' : Gh) (hs : List Hand), Given E H w gh tab gh' tab' (hs.filterMap Hand.tk) ∧ hs.filterMap Hand.ln = ln ∧ rs.length = l.length ∧ hs.length = l.length ∧ (∀ l', l' ∈ ln → (tget tab l'.key).active = true) ∧
      (∀ (i : Nat) (r : RV) (h : Hand), rs[i]? = some r → hs[i]? = some h → ((mode (k + i) = 2 ∧ isOwned r = true) ↔ h.ln.isSome = true)) ∧ (keepsAll mode k l = true → hs.filterMap Hand.tk = []) ∧
      ((∀ l', l' ∈ ln → (tget tab' l'.key).active = true) → ∀ (i : Nat) (r : RV) (v : Value) (h : Hand), rs[i]? = some r → vs[i]? = some v → hs[i]? = some h → HRel gh' tab' H.next w r v h) := by
  intro l
  induction l with
  | nil =>
    intro k gh tab vs rs tab' ln M hs ho
    simp [outArgs] at ho
    obtain ⟨rfl, rfl, rfl⟩ := ho
    exact ⟨gh, [], Given.of_marks (Marks.refl M), rfl, rfl, rfl, fun _ h => by simp at h, fun i r h hr => by simp at hr, fun _ => rfl, fun _ i r v h hr => by simp at hr⟩
  | cons x l ih =>
    intro k gh tab vs rs tab' ln M hs ho
    cases vs with
    | nil => have := hs.len; simp at this
    | cons v vs =>
      simp only [outArgs] at ho
      split at ho
      · rename_i r1 t1 l1 h1
        split at ho
        · rename_i rs2 t2 l2 h2
          simp only [Option.some.injEq, Prod.mk.injEq] at ho
          obtain ⟨rfl, rfl, rfl⟩ := ho
          obtain ⟨gh1, hd, K1, q1, q2, q3, q4, q5⟩ := outArg_run M (hs.rel 0 x v rfl rfl) h1
          have hr : SsRel gh1 t1 H.next w l vs := ⟨by have := hs.len; simpa using this, fun i a b ha hb => K1.goes.s (hs.rel (i + 1) a b ha hb)⟩
          obtain ⟨gh2, hs2, K2, p1, p2, p3, p4, p6, p7, p5⟩ := ih K1.mem hr h2
          refine ⟨gh2, hd :: hs2, ?_, ?_, by simp [p2], by simp [p3], fun l' hl => ?_, fun i r h hri hhi => ?_, fun hkeep => ?_, fun hfin i r u h hri hui hhi => ?_⟩
          · have := Given.trans M K1 K2
            rw [List.filterMap_cons]
            cases hd with
            | no => simpa [Hand.tk] using this
            | taken d o => simpa [Hand.tk] using this
            | lent l' => simpa [Hand.tk] using this
          · rw [List.filterMap_cons, ← q2, ← p1]
            cases hd <;> simp [Hand.ln]
          · rw [List.mem_append] at hl
            rcases hl with hl | hl
            · rw [← q2] at hl
              cases hd with
              | lent l'' => simp [Hand.ln] at hl; subst hl; exact q3 _ rfl
              | no => simp [Hand.ln] at hl
              | taken d o => simp [Hand.ln] at hl
            · exact K1.act (p4 l' hl)
          · cases i with
            | zero =>
              simp only [List.getElem?_cons_zero, Option.some.injEq] at hri hhi
              subst hri; subst hhi; exact q4
            | succ i =>
              simp only [List.getElem?_cons_succ] at hri hhi
              have := p6 i r h hri hhi
              rw [show k + (i + 1) = k + 1 + i by omega]; exact this
          · simp only [keepsAll, Bool.and_eq_true, Bool.not_eq_true', Bool.and_eq_false_iff, beq_eq_false_iff_ne] at hkeep
            rw [List.filterMap_cons, p7 hkeep.2]
            cases ht : hd.tk with
            | none => rfl
            | some d =>
              obtain ⟨a1, a2⟩ := q5 (by rw [ht]; rfl)
              rcases hkeep.1 with h | h
              · exact absurd a1 h
              · rw [a2] at h; cases h
          · cases i with
            | zero =>
              simp only [List.getElem?_cons_zero, Option.some.injEq] at hri hui hhi
              subst hri; subst hui; subst hhi
              refine HRel.given K2 (fun l' e hk => ?_) q1
              have := hfin l' (by
                rw [List.mem_append]; left
                rw [← q2, e]; simp [Hand.ln])
              rw [(K2.gone _ hk).2] at this; cases this
            | succ i =>
              simp only [List.getElem?_cons_succ] at hri hui hhi
              exact p5 (fun l' hl => hfin l' (List.mem_append_right _ hl)) i r u h hri hui hhi
        · simp at ho
      · simp at ho

end
end Go.Vi

/-
  What a call asks, and what it leaves.
-/
namespace Go.Vi
set_option linter.unusedVariables false
set_option linter.unusedSimpArgs false

/-- objects and marks -/
structure Objs (gh : Gh) (H : Hp) (w : World) : Prop where
  at_ : ∀ o obj, H.objs o = some obj → ObjAt gh H.next w (gh.μ o) obj
  lt : ∀ o, H.objs o ≠ none → o < H.next ∧ gh.G (gh.μ o).blk = 0 ∧ (gh.μ o).blk < w.heap.size
  inj : ∀ o o', o ≠ o' → H.objs o ≠ none → H.objs o' ≠ none → (gh.μ o).blk ≠ (gh.μ o').blk
  G0 : ∀ b, w.heap.size ≤ b → gh.G b = 0

def Lof (pl : List (Option Place)) (b : Nat) : Prop := ∃ (i o s : Nat), pl[i]? = some (some (b, o, s))

/-- what a call finds -/
structure Enter (gh : Gh) (H : Hp) (w : World) (args : List RV) (vals : List Value) (pl : List (Option Place)) : Prop where
  objs : Objs gh H w
  len : vals.length = args.length
  lenp : pl.length = args.length
  rel : ∀ (i : Nat) (r : RV) (v : Value) (p : Option Place), args[i]? = some r → vals[i]? = some v → pl[i]? = some p → ARel gh H.next w r v p
  own : ∀ (i b o s : Nat), pl[i]? = some (some (b, o, s)) → gh.G b = 0 ∧ ∀ o', H.objs o' ≠ none → (gh.μ o').blk ≠ b
  apart : ∀ (i j b o s b' o' s' : Nat), i ≠ j → pl[i]? = some (some (b, o, s)) → pl[j]? = some (some (b', o', s')) → b ≠ b'

/-- what a call leaves alone -/
structure Leave (gh : Gh) (H : Hp) (w : World) (L : Nat → Prop) (gh' : Gh) (H' : Hp) (w' : World) : Prop where
  objs : Objs gh' H' w'
  size : w.heap.size ≤ w'.heap.size
  old : ∀ b, b < w.heap.size → ¬ L b → (∀ o, H.objs o ≠ none → (gh.μ o).blk ≠ b) → w'.heap[b]? = w.heap[b]?
  oldG : ∀ b, b < w.heap.size → ¬ L b → gh'.G b = gh.G b
  μ : ∀ o, o < H.next → gh'.μ o = gh.μ o
  next : H.next ≤ H'.next
  live : ∀ o, o < H.next → H'.objs o ≠ none → H.objs o ≠ none
  newObj : ∀ o, H.next ≤ o → H'.objs o ≠ none → w.heap.size ≤ (gh'.μ o).blk ∨ L (gh'.μ o).blk ∨ ∃ o', H.objs o' ≠ none ∧ (gh.μ o').blk = (gh'.μ o).blk
  still : Still w w'

inductive CsRel (gh : Gh) (nx : Nat) (w : World) : List RV → List Value → List Place → Prop
  | nil : CsRel gh nx w [] [] []
  | cons (r : RV) (v : Value) (p : Option Place) (rs : List RV) (vs : List Value) (pl : List Place) (h : ARel gh nx w r v p) (hb : ∀ cs off, r ≠ .box cs off) (hr : CsRel gh nx w rs vs pl) :
      CsRel gh nx w (r :: rs) (v :: vs) (p.toList ++ pl)

inductive RRel (gh : Gh) (nx : Nat) (w : World) : RV → Value → List Place → Prop
  | cell (r : RV) (v : Value) (p : Option Place) (h : ARel gh nx w r v p) (hb : ∀ cs off, r ≠ .box cs off) : RRel gh nx w r v p.toList
  | st (cs : List RV) (l : List Value) (pl : List Place) (h : CsRel gh nx w cs l pl) : RRel gh nx w (.st cs) (.agg l.toArray) pl

inductive RsRel (gh : Gh) (nx : Nat) (w : World) : List RV → List Value → List Place → Prop
  | nil : RsRel gh nx w [] [] []
  | cons (r : RV) (v : Value) (p : List Place) (rs : List RV) (vs : List Value) (pl : List Place) (h : RRel gh nx w r v p) (hr : RsRel gh nx w rs vs pl) : RsRel gh nx w (r :: rs) (v :: vs) (p ++ pl)

/-- the value that a call returns -/
def retVal (vs : List Value) : Value :=
  match vs with
  | [v] => v
  | vs => .tuple vs.toArray

inductive BackIn (gh : Gh) (nx : Nat) (w : World) : Place → RV → Prop
  | row (es : List VV) (sz b o s : Nat) (h : RowIn gh nx w es sz b o s) : BackIn gh nx w (b, o, s) (.own es sz)
  | box (cs : List VV) (off b o s : Nat) (h : BoxIn gh nx w cs b) : BackIn gh nx w (b, o, s) (.box cs off)

def lentPl (mode : Nat → Nat) : Nat → List RV → List (Option Place) → List Place
  | i, a :: as, p :: ps => (if mode i = 2 ∧ isOwned a = true then p.toList else []) ++ lentPl mode (i + 1) as ps
  | _, _, _ => []

structure Post (mode : Nat → Nat) (gh : Gh) (H : Hp) (w : World) (args : List RV) (pl : List (Option Place)) (rs bs : List RV) (H' : Hp) (v : Value) (gh' : Gh) (w' : World) : Prop where
  leave : Leave gh H w (Lof pl) gh' H' w'
  res : ∃ vl rp, RsRel gh' H'.next w' rs vl rp ∧ v = retVal vl ∧ ((rp ++ lentPl mode 0 args pl).map (·.1)).Nodup ∧
    ∀ p, p ∈ rp ++ lentPl mode 0 args pl → gh'.G p.1 = 0 ∧ (w.heap.size ≤ p.1 ∨ Lof pl p.1) ∧ p.1 < w'.heap.size ∧ ∀ o, H'.objs o ≠ none → (gh'.μ o).blk ≠ p.1
  backLen : bs.length = (lentPl mode 0 args pl).length
  back : ∀ (k : Nat) (p : Place) (r : RV), (lentPl mode 0 args pl)[k]? = some p → bs[k]? = some r → BackIn gh' H'.next w' p r

structure CallOk (P : Program) (pol : Pol) (call : CallV) : Prop where
  ok : ∀ f args H rs bs H', call f args H = some (rs, bs, H') → (∃ fn, P.funcs[f]? = some fn ∧ fn.body.isSome ∧ (fn.name == "runtime.NumGoroutine") = false) ∧
    ∀ gh w vals pl, Enter gh H w args vals pl → Calls P f vals.toArray w fun e w' => ∃ v gh', e = .returned v ∧ Post (pol.mode f) gh H w args pl rs bs H' v gh' w'
  ext : ∀ f args H rs bs H', (pol.ext f).isSome = true → call f args H = some (rs, bs, H') → H' = H

section
variable {P : Program} {E : En} {gh : Gh} {tab : List TC} {H : Hp} {w : World}

theorem Mem.objs (M : Mem E gh tab H w) : Objs gh H w := ⟨M.objAt, M.objLt, M.objInj, M.G0⟩

/-- the rows that come back -/
theorem backV_run : ∀ {ln : List Lent} {bs : List RV} {tab tab2 : List TC}, backV tab ln bs = some tab2 → nodupN (ln.map Lent.key) = true →
    tab2.length = tab.length ∧ bs.length = ln.length ∧ (∀ d, d ∉ ln.map Lent.key → tget tab2 d = tget tab d) ∧
    ∀ (k : Nat) (l : Lent) (r : RV), ln[k]? = some l → bs[k]? = some r → match l with
      | .row d g => ∃ es0 es sz, r = .own es sz ∧ tget tab d = .row g es0 sz false ∧ tget tab2 d = .row g es sz false ∧ es.length = es0.length
      | .box d g => ∃ cs0 cs off, r = .box cs off ∧ tget tab d = .box g cs0 true ∧ tget tab2 d = .box g (cs.map .val) true ∧ cs.length = cs0.length := by
  intro ln
  induction ln with
  | nil =>
    intro bs tab tab2 h _
    cases bs with
    | nil => simp [backV] at h; subst h; exact ⟨rfl, rfl, fun _ _ => rfl, fun k l r hk => by simp at hk⟩
    | cons b bs => simp [backV] at h
  | cons l ln ih =>
    intro bs tab tab2 h hn
    simp only [List.map_cons, nodupN, Bool.and_eq_true, Bool.not_eq_true', List.contains_eq_mem, decide_eq_false_iff_not] at hn
    obtain ⟨hn1, hn2⟩ := hn
    cases l with
    | row d g =>
      cases bs with
      | nil => simp [backV] at h
      | cons r bs =>
        cases r with
        | own es sz =>
          simp only [backV] at h
          split at h
          · rename_i g' es0 sz0 hr
            split at h
            · rename_i hc
              obtain ⟨rfl, rfl, hl⟩ := hc
              have hact : (tget tab d).active = true := by rw [hr]; rfl
              have hdl := tget_lt hact
              obtain ⟨q1, q2, q3, q4⟩ := ih h hn2
              refine ⟨by simpa using q1, by simp [q2], fun e he => ?_, fun k l r hk hr' => ?_⟩
              · simp only [List.map_cons, Lent.key, List.mem_cons, not_or] at he
                rw [q3 e he.2, tget_set_ne he.1]
              · cases k with
                | zero =>
                  simp only [List.getElem?_cons_zero, Option.some.injEq] at hk hr'
                  subst hk; subst hr'
                  refine ⟨es0, es, sz, rfl, hr, ?_, hl⟩
                  rw [q3 d hn1, tget_set_same hdl]
                | succ k =>
                  simp only [List.getElem?_cons_succ] at hk hr'
                  have hne : l.key ≠ d := fun e => hn1 (by
                    show d ∈ _
                    rw [← e]; exact List.mem_map_of_mem (List.mem_of_getElem? hk))
                  have := q4 k l r hk hr'
                  cases l with
                  | row d' g'' => obtain ⟨a, b, c, e1, e2, e3, e4⟩ := this; exact ⟨a, b, c, e1, (tget_set_ne (show d' ≠ d from hne)).symm.trans e2, e3, e4⟩
                  | box d' g'' => obtain ⟨a, b, c, e1, e2, e3, e4⟩ := this; exact ⟨a, b, c, e1, (tget_set_ne (show d' ≠ d from hne)).symm.trans e2, e3, e4⟩
            · simp at h
          · simp at h
        | _ => simp [backV] at h
    | box d g =>
      cases bs with
      | nil => simp [backV] at h
      | cons r bs =>
        cases r with
        | box cs off =>
          simp only [backV] at h
          split at h
          · rename_i g' cs0 hr
            split at h
            · rename_i hc
              obtain ⟨rfl, hl⟩ := hc
              have hact : (tget tab d).active = true := by rw [hr]; rfl
              have hdl := tget_lt hact
              obtain ⟨q1, q2, q3, q4⟩ := ih h hn2
              refine ⟨by simpa using q1, by simp [q2], fun e he => ?_, fun k l r hk hr' => ?_⟩
              · simp only [List.map_cons, Lent.key, List.mem_cons, not_or] at he
                rw [q3 e he.2, tget_set_ne he.1]
              · cases k with
                | zero =>
                  simp only [List.getElem?_cons_zero, Option.some.injEq] at hk hr'
                  subst hk; subst hr'
                  refine ⟨cs0, cs, off, rfl, hr, ?_, hl⟩
                  rw [q3 d hn1, tget_set_same hdl]
                | succ k =>
                  simp only [List.getElem?_cons_succ] at hk hr'
                  have hne : l.key ≠ d := fun e => hn1 (by
                    show d ∈ _
                    rw [← e]; exact List.mem_map_of_mem (List.mem_of_getElem? hk))
                  have := q4 k l r hk hr'
                  cases l with
                  | row d' g'' => obtain ⟨a, b, c, e1, e2, e3, e4⟩ := this; exact ⟨a, b, c, e1, (tget_set_ne (show d' ≠ d from hne)).symm.trans e2, e3, e4⟩
                  | box d' g'' => obtain ⟨a, b, c, e1, e2, e3, e4⟩ := this; exact ⟨a, b, c, e1, (tget_set_ne (show d' ≠ d from hne)).symm.trans e2, e3, e4⟩
            · simp at h
          · simp at h
        | _ => simp [backV] at h

end
end Go.Vi

/-
  The memory behind a call.
-/
namespace Go.Vi
set_option linter.unusedVariables false
set_option linter.unusedSimpArgs false

section
variable {P : Program} {E : En} {H : Hp} {w : World}

open Classical in
/-- ghosts behind a call -/
noncomputable def behind (ghb gh' : Gh) (w : World) (L : Nat → Prop) (pure : Bool) : Gh :=
  ⟨if pure then ghb.μ else gh'.μ, fun b => if b < w.heap.size ∧ ¬ L b then ghb.G b else gh'.G b, ghb.β, ghb.bo, ghb.bs⟩

theorem behind_G {ghb gh' : Gh} {L : Nat → Prop} {pure : Bool} {b : Nat} (h : b < w.heap.size) (hL : ¬ L b) : (behind ghb gh' w L pure).G b = ghb.G b := if_pos ⟨h, hL⟩
theorem behind_G' {ghb gh' : Gh} {L : Nat → Prop} {pure : Bool} {b : Nat} (h : w.heap.size ≤ b ∨ L b) : (behind ghb gh' w L pure).G b = gh'.G b := if_neg (by rintro ⟨h1, h2⟩; rcases h with h | h; omega; exact h2 h)

/-- the table behind a call: the rows that were lent hold other things -/
structure TabBack (gh : Gh) (nx : Nat) (w : World) (tab tab2 : List TC) (ln : List Lent) : Prop where
  len : tab2.length = tab.length
  other : ∀ d, d ∉ ln.map Lent.key → tget tab2 d = tget tab d
  row : ∀ d g, Lent.row d g ∈ ln → ∃ es0 es sz, tget tab d = .row g es0 sz false ∧ tget tab2 d = .row g es sz false ∧ RowIn gh nx w es sz (gh.β d) (gh.bo d) (gh.bs d)
  box : ∀ d g, Lent.box d g ∈ ln → ∃ cs0 cs, tget tab d = .box g cs0 true ∧ tget tab2 d = .box g (cs.map .val) true ∧ BoxIn gh nx w cs (gh.β d)

theorem TabBack.gen {gh : Gh} {nx : Nat} {tab tab2 : List TC} {ln : List Lent} (h : TabBack gh nx w tab tab2 ln) (d : Nat) : (tget tab2 d).gen = (tget tab d).gen ∧ (tget tab2 d).active = (tget tab d).active := by
  by_cases hd : d ∈ ln.map Lent.key
  · obtain ⟨l, hl, rfl⟩ := List.mem_map.1 hd
    cases l with
    | row d g => obtain ⟨es0, es, sz, h1, h2, _⟩ := h.row d g hl; simp only [Lent.key]; rw [h1, h2]; exact ⟨rfl, rfl⟩
    | box d g => obtain ⟨cs0, cs, h1, h2, _⟩ := h.box d g hl; simp only [Lent.key]; rw [h1, h2]; exact ⟨rfl, rfl⟩
  · rw [h.other d hd]; exact ⟨rfl, rfl⟩

theorem Mem.after {ghb gh1 gh' : Gh} {tabb tab2 : List TC} {H0 H' : Hp} {w' : World} {L : Nat → Prop} {pure : Bool} {ln : List Lent} (M : Mem E ghb tabb H w) (Lv : Leave gh1 H0 w L gh' H' w')
    (hp : (pure = true ∧ (∀ o, H0.objs o = none)) ∨ (pure = false ∧ H0 = H ∧ ghb = gh1)) (hμ : gh1.μ = ghb.μ)
    (hL : ∀ b, L b → ghb.G b = 0 ∧ (E.n0 ≤ b ∨ E.L b) ∧ ∀ o, H.objs o ≠ none → (ghb.μ o).blk ≠ b)
    (hk : ∀ d, (tget tabb d).active = true → d ∉ ln.map Lent.key → ¬ L (ghb.β d)) (hkl : ∀ d, d ∈ ln.map Lent.key → L (ghb.β d) ∧ gh'.G (ghb.β d) = 0)
    (hko : pure = false → ∀ d, d ∈ ln.map Lent.key → ∀ o, H'.objs o ≠ none → (gh'.μ o).blk ≠ ghb.β d)
    (hB : Goes ghb tabb H.next w (behind ghb gh' w L pure) tab2 (if pure then H else H').next w' → TabBack (behind ghb gh' w L pure) (if pure then H else H').next w' tabb tab2 ln)
    (hK : ∃ (nx : Nat) (g : Gh), TabBack g nx w' tabb tab2 ln) :
    Goes ghb tabb H.next w (behind ghb gh' w L pure) tab2 (if pure then H else H').next w' ∧ Mem E (behind ghb gh' w L pure) tab2 (if pure then H else H') w' := by
  obtain ⟨nxk, gk, hK⟩ := hK
  -- old blocks
  have live : ∀ b o, H0.objs o ≠ none → (gh1.μ o).blk = b → ∃ o', H.objs o' ≠ none ∧ (ghb.μ o').blk = b := fun b o ho hb => by
    rcases hp with ⟨_, h⟩ | ⟨_, h, _⟩
    · exact absurd (h o) ho
    · subst h; exact ⟨o, ho, by rw [← hμ]; exact hb⟩
  have same : ∀ b, b < w.heap.size → ¬ L b → (∀ o, H.objs o ≠ none → (ghb.μ o).blk ≠ b) → w'.heap[b]? = w.heap[b]? := fun b h1 h2 h3 =>
    Lv.old b h1 h2 fun o ho hb => by obtain ⟨o', q1, q2⟩ := live b o ho hb; exact h3 o' q1 q2
  have sameP : pure = true → ∀ b, b < w.heap.size → ¬ L b → w'.heap[b]? = w.heap[b]? := fun hpt b h1 h2 => Lv.old b h1 h2 fun o ho => by
    rcases hp with ⟨_, h⟩ | ⟨h, _⟩
    · exact absurd (h o) ho
    · rw [hpt] at h; cases h
  have Gpos : ∀ b o, o < ghb.G b → b < w.heap.size ∧ ¬ L b ∧ ∀ o, H.objs o ≠ none → (ghb.μ o).blk ≠ b := fun b o ho => by
    refine ⟨Classical.byContradiction fun h => ?_, fun h => ?_, fun o' ho' h => ?_⟩
    · rw [M.G0 b (by omega)] at ho; omega
    · rw [(hL b h).1] at ho; omega
    · rw [← h, (M.objLt o' ho').2.1] at ho; omega
  have T : Goes ghb tabb H.next w (behind ghb gh' w L pure) tab2 (if pure then H else H').next w' := by
    refine ⟨?_, fun o ho => ?_, fun b => ?_, fun b o ho => ?_, fun d => by rw [(hK.gen d).1]; exact Nat.le_refl _, fun d g es sz lk he hg => ?_, fun d g cs wr he hg => ?_⟩
    · cases pure with
      | true => exact Nat.le_refl _
      | false =>
        rcases hp with ⟨h, _⟩ | ⟨_, h, _⟩
        · cases h
        · subst h; exact Lv.next
    · cases pure with
      | true => rfl
      | false =>
        rcases hp with ⟨h, _⟩ | ⟨_, h, _⟩
        · cases h
        · subst h
          show gh'.μ o = ghb.μ o
          rw [Lv.μ o ho, hμ]
    · by_cases hb : b < w.heap.size ∧ ¬ L b
      · rw [behind_G hb.1 hb.2]; exact Nat.le_refl _
      · have : ghb.G b = 0 := by
          by_cases h1 : b < w.heap.size
          · exact (hL b (Classical.byContradiction fun h2 => hb ⟨h1, h2⟩)).1
          · exact M.G0 b (by omega)
        rw [this]; exact Nat.zero_le _
    · obtain ⟨q1, q2, q3⟩ := Gpos b o ho
      exact cellAt_congr (same b q1 q2 q3) o
    · by_cases hd : d ∈ ln.map Lent.key
      · obtain ⟨l, hl, rfl⟩ := List.mem_map.1 hd
        cases l with
        | row d g' =>
          obtain ⟨es0, es', sz', h1, h2, _⟩ := hK.row d g' hl
          simp only [Lent.key] at he ⊢
          rw [h2] at he
          cases he
          exact ⟨es0, false, h1, rfl, rfl, rfl⟩
        | box d g' =>
          obtain ⟨cs0, cs, h1, h2, _⟩ := hK.box d g' hl
          simp only [Lent.key] at he
          rw [h2] at he; cases he
      · rw [hK.other d hd] at he
        exact ⟨es, lk, he, rfl, rfl, rfl⟩
    · by_cases hd : d ∈ ln.map Lent.key
      · obtain ⟨l, hl, rfl⟩ := List.mem_map.1 hd
        cases l with
        | row d g' =>
          obtain ⟨es0, es', sz', h1, h2, _⟩ := hK.row d g' hl
          simp only [Lent.key] at he
          rw [h2] at he; cases he
        | box d g' =>
          obtain ⟨cs0, cs', h1, h2, _⟩ := hK.box d g' hl
          simp only [Lent.key] at he ⊢
          rw [h2] at he
          cases he
          exact ⟨cs0, true, h1, rfl⟩
      · rw [hK.other d hd] at he
        exact ⟨cs, wr, he, rfl⟩
  refine ⟨T, ?_⟩
  have B := hB T
  have GG2 : pure = false → (behind ghb gh' w L pure).G = gh'.G := fun hpf => by
    rcases hp with ⟨h, _⟩ | ⟨_, _, hgb⟩
    · rw [hpf] at h; cases h
    · funext b
      by_cases hb : b < w.heap.size ∧ ¬ L b
      · rw [behind_G hb.1 hb.2, hgb]; exact (Lv.oldG b hb.1 hb.2).symm
      · have : w.heap.size ≤ b ∨ L b := by
          by_cases h1 : b < w.heap.size
          · exact .inr (Classical.byContradiction fun h2 => hb ⟨h1, h2⟩)
          · exact .inl (by omega)
        rw [behind_G' this]
  have GG : pure = false → ∀ {o : Nat} {obj : Obj}, ObjAt (behind ghb gh' w L pure) (if pure then H else H').next w' ((behind ghb gh' w L pure).μ o) obj = ObjAt gh' H'.next w' (gh'.μ o) obj := fun hpf o obj => by
    have h1 := GG2 hpf
    subst hpf
    cases obj <;> simp only [ObjAt, VR] <;> rw [h1] <;> rfl
  have act : ∀ d, (tget tab2 d).active = true → (tget tabb d).active = true := fun d hd => by rw [← (hK.gen d).2]; exact hd
  have E0 : ∀ b, b < E.n0 → ¬ E.L b → b < w.heap.size ∧ ¬ L b := fun b h1 h2 => ⟨Nat.lt_of_lt_of_le h1 M.size, fun h => by rcases (hL b h).2.1 with q | q; omega; exact h2 q⟩
  refine ⟨fun d => ?_, fun d d' hne h1 h2 => M.apart d d' hne (act d h1) (act d' h2), fun b hb => ?_, fun o obj ho => ?_, fun o ho => ?_, fun o o' hne ho ho' => ?_, fun d o hd ho => ?_,
    Nat.le_trans M.size Lv.size, fun b h1 h2 h3 => ?_, fun b h1 h2 => ?_, fun o ho => ?_, ?_, fun o ho hl => ?_, fun o ho hl => ?_, fun d b o s he => ?_, M.still.trans Lv.still⟩
  · by_cases hd : d ∈ ln.map Lent.key
    · obtain ⟨l, hl, rfl⟩ := List.mem_map.1 hd
      obtain ⟨hLb, hG0⟩ := hkl _ hd
      have hG : (behind ghb gh' w L pure).G (ghb.β l.key) = 0 := by rw [behind_G' (.inr hLb)]; exact hG0
      cases l with
      | row d g =>
        simp only [Lent.key] at hLb hG ⊢
        obtain ⟨es0, es, sz, h1, h2, h3⟩ := B.row d g hl
        obtain ⟨hpos, c, ty, c1, c2, c3, c4, c5⟩ := h3
        rw [h2]
        exact ⟨c, ty, c1, c2, by rw [c2]; exact c3, c4, c5, M.own (by rw [h1]; rfl), fun _ => hG, by rw [show (behind ghb gh' w L pure).G ((behind ghb gh' w L pure).β d) = 0 from hG]; exact Nat.zero_le _, hpos⟩
      | box d g =>
        simp only [Lent.key] at hLb hG ⊢
        obtain ⟨cs0, cs, h1, h2, h3⟩ := B.box d g hl
        obtain ⟨c, ty, c1, c2, c3⟩ := h3
        rw [h2]
        refine ⟨c, ty, c1, by simpa using c2, fun i x v hx hv => ?_, M.own (by rw [h1]; rfl), fun _ => hG⟩
        simp at hx
        obtain ⟨y, hy, rfl⟩ := hx
        exact .val _ _ (c3 i y v hy hv)
    · rw [hK.other d hd]
      exact TabAt.keep T rfl rfl rfl (fun ha => same _ (M.lt ha) (hk d ha hd) fun o ho => (M.objApart d o ha ho).symm) (fun ha => behind_G (M.lt ha) (hk d ha hd)) (M.tabR d)
  · have : w.heap.size ≤ b := Nat.le_trans Lv.size hb
    rw [behind_G' (.inl this)]; exact Lv.objs.G0 b hb
  · cases pure with
    | true =>
      have hl : H.objs o ≠ none := by simp only [if_true] at ho; simp [ho]
      exact ObjAt.keep T (sameP rfl _ (M.objLt o hl).2.2 (fun h => (hL _ h).2.2 o hl rfl)) (M.objAt o obj ho)
    | false =>
      have hx := Lv.objs.at_ o obj ho
      rw [GG rfl]; exact hx
  · cases pure with
    | true =>
      obtain ⟨q1, q2, q3⟩ := M.objLt o ho
      refine ⟨q1, ?_, Nat.lt_of_lt_of_le q3 Lv.size⟩
      show (behind ghb gh' w L true).G (ghb.μ o).blk = 0
      rw [behind_G q3 (fun h => (hL _ h).2.2 o ho rfl)]; exact q2
    | false =>
      obtain ⟨q1, q2, q3⟩ := Lv.objs.lt o ho
      refine ⟨q1, ?_, q3⟩
      show (behind ghb gh' w L false).G (gh'.μ o).blk = 0
      rw [GG2 rfl]; exact q2
  · cases pure with
    | true => exact M.objInj o o' hne ho ho'
    | false => exact Lv.objs.inj o o' hne ho ho'
  · cases pure with
    | true => exact M.objApart d o (act d hd) ho
    | false =>
      rcases hp with ⟨h, _⟩ | ⟨_, h0, hgb⟩
      · cases h
      · subst h0
        show ghb.β d ≠ (gh'.μ o).blk
        by_cases ho' : o < H0.next
        · rw [Lv.μ o ho', hμ]; exact M.objApart d o (act d hd) (Lv.live o ho' ho)
        · rcases Lv.newObj o (by omega) ho with h5 | h5 | ⟨o2, h5, h6⟩
          · have := M.lt (act d hd)
            omega
          · by_cases hdl : d ∈ ln.map Lent.key
            · exact (hko rfl d hdl o ho).symm
            · exact fun e => hk d (act d hd) hdl (by rw [e]; exact h5)
          · rw [← h6, hμ]; exact M.objApart d o2 (act d hd) h5
  · obtain ⟨q1, q2⟩ := E0 b h1 h2
    rw [same b q1 q2 fun o ho hb => ?_]
    · exact M.old b h1 h2 h3
    · by_cases ho' : o < E.H0.next
      · exact h3 o (M.live o ho' ho) (by rw [← M.μ0 o ho', hb])
      · rcases M.newObj o (by omega) ho with h5 | h5 | ⟨o2, h5, h6⟩
        · omega
        · rw [hb] at h5; exact h2 h5
        · exact h3 o2 h5 (by rw [h6, hb])
  · obtain ⟨q1, q2⟩ := E0 b h1 h2
    rw [behind_G q1 q2]; exact M.oldG b h1 h2
  · have := T.tμ o (Nat.lt_of_lt_of_le ho M.next)
    rw [this]; exact M.μ0 o ho
  · exact Nat.le_trans M.next T.tnx
  · cases pure with
    | true => exact M.live o ho hl
    | false =>
      rcases hp with ⟨h, _⟩ | ⟨_, h0, hgb⟩
      · cases h
      · subst h0; exact M.live o ho (Lv.live o (Nat.lt_of_lt_of_le ho M.next) hl)
  · cases pure with
    | true => exact M.newObj o ho hl
    | false =>
      rcases hp with ⟨h, _⟩ | ⟨_, h0, hgb⟩
      · cases h
      · subst h0
        show E.n0 ≤ (gh'.μ o).blk ∨ E.L (gh'.μ o).blk ∨ ∃ o', E.H0.objs o' ≠ none ∧ (E.μ0 o').blk = (gh'.μ o).blk
        by_cases ho' : o < H0.next
        · rw [Lv.μ o ho', hμ]; exact M.newObj o ho (Lv.live o ho' hl)
        · rcases Lv.newObj o (by omega) hl with h5 | h5 | ⟨o2, h5, h6⟩
          · exact .inl (Nat.le_trans M.size h5)
          · rcases (hL _ h5).2.1 with h7 | h7
            · exact .inl h7
            · exact .inr (.inl h7)
          · rw [← h6, hμ]
            by_cases ho2 : o2 < E.H0.next
            · exact .inr (.inr ⟨o2, M.live o2 ho2 h5, by rw [← M.μ0 o2 ho2]⟩)
            · exact M.newObj o2 (by omega) h5
  · rw [(hK.gen d).1, (hK.gen d).2]; exact M.lent d b o s he

end
end Go.Vi

/-
  Results as the caller has them.
-/
namespace Go.Vi
set_option linter.unusedVariables false
set_option linter.unusedSimpArgs false

section
variable {P : Program} {E : En} {gh : Gh} {tab : List TC} {H : Hp} {w : World}

/-- a block that is nobody's yet -/
structure Free (E : En) (gh : Gh) (tab : List TC) (H : Hp) (w : World) (b : Nat) : Prop where
  G : gh.G b = 0
  lt : b < w.heap.size
  key : ∀ d, (tget tab d).active = true → gh.β d ≠ b
  obj : ∀ o, H.objs o ≠ none → (gh.μ o).blk ≠ b
  own : E.n0 ≤ b ∨ E.L b

/-- what such a block holds is told to others -/
theorem Mem.tell (M : Mem E gh tab H w) {b n : Nat} (F : Free E gh tab H w b) :
    Goes gh tab H.next w { gh with G := Vi.upd gh.G b n } tab H.next w ∧ Mem E { gh with G := Vi.upd gh.G b n } tab H w := by
  have hG : ∀ b', b' ≠ b → Vi.upd gh.G b n b' = gh.G b' := fun b' h => upd_ne _ _ _ h
  have T : Goes gh tab H.next w { gh with G := Vi.upd gh.G b n } tab H.next w := { Goes.refl gh tab H.next w with
    tG := fun b' => by
      by_cases h : b' = b
      · subst h; rw [F.G]; exact Nat.zero_le _
      · show gh.G b' ≤ Vi.upd gh.G b n b'
        rw [hG b' h]; exact Nat.le_refl _ }
  refine ⟨T, ⟨fun d => TabAt.keep T rfl rfl rfl (fun _ => rfl) (fun ha => hG _ (F.key d ha)) (M.tabR d), M.apart, fun b' hb => ?_, fun o obj ho => ObjAt.keep T rfl (M.objAt o obj ho), fun o ho => ?_, M.objInj, M.objApart,
    M.size, M.old, fun b' h1 h2 => ?_, M.μ0, M.next, M.live, M.newObj, M.lent, M.still⟩⟩
  · show Vi.upd gh.G b n b' = 0
    rw [hG b' (fun h => by have := F.lt; omega)]; exact M.G0 b' hb
  · obtain ⟨q1, q2, q3⟩ := M.objLt o ho
    exact ⟨q1, by show Vi.upd gh.G b n (gh.μ o).blk = 0; rw [hG _ (F.obj o ho)]; exact q2, q3⟩
  · show Vi.upd gh.G b n b' = E.G0 b'
    rw [hG b' (fun h => by subst h; rcases F.own with q | q; omega; exact h2 q)]; exact M.oldG b' h1 h2

structure Took (E : En) (H : Hp) (w : World) (gh : Gh) (tab : List TC) (gh' : Gh) (tab' : List TC) (bl : List Nat) : Prop where
  goes : Goes gh tab H.next w gh' tab' H.next w
  mem : Mem E gh' tab' H w
  free : ∀ b, b ∉ bl → Free E gh tab H w b → Free E gh' tab' H w b

theorem Took.refl (M : Mem E gh tab H w) : Took E H w gh tab gh tab [] := ⟨Goes.refl _ _ _ _, M, fun b _ h => h⟩

theorem Took.trans {gh1 gh2 : Gh} {tab1 tab2 : List TC} {b1 b2 : List Nat} (h : Took E H w gh tab gh1 tab1 b1) (h' : Took E H w gh1 tab1 gh2 tab2 b2) : Took E H w gh tab gh2 tab2 (b1 ++ b2) :=
  ⟨h.goes.trans h'.goes, h'.mem, fun b hb hf => by rw [List.mem_append, not_or] at hb; exact h'.free b hb.2 (h.free b hb.1 hf)⟩

def pblocks (p : Option Place) : List Nat := p.toList.map (·.1)

theorem ofCell_run (M : Mem E gh tab H w) {keys ks : List Nat} {r : RV} {v : Value} {p : Option Place} {s : SV} {tab' : List TC} (h : ARel gh H.next w r v p) (hf : ∀ b, b ∈ pblocks p → Free E gh tab H w b)
    (ho : ofCell tab keys r = some (s, tab', ks)) : ∃ gh', Took E H w gh tab gh' tab' (pblocks p) ∧ SRel gh' tab' H.next w s v := by
  cases h with
  | val u x h =>
    simp [ofCell] at ho
    obtain ⟨rfl, rfl, rfl⟩ := ho
    exact ⟨gh, Took.refl M, .val _ _ h⟩
  | full es a n h =>
    simp [ofCell] at ho
    obtain ⟨rfl, rfl, rfl⟩ := ho
    exact ⟨gh, Took.refl M, .full _ _ _ h⟩
  | box cs off b h => simp [ofCell] at ho
  | own es n sz b o s' b' o' cap hl h hn ha =>
    have F := hf b (by simp [pblocks])
    obtain ⟨hpos, c, ty, c1, c2, c3, c4, c5⟩ := h
    subst hl
    cases keys with
    | nil =>
      simp only [ofCell, Option.some.injEq, Prod.mk.injEq] at ho
      obtain ⟨rfl, rfl, rfl⟩ := ho
      obtain ⟨T, M'⟩ := M.tell (n := o + es.length * sz) F
      refine ⟨_, ⟨T, M', fun b1 hb hf1 => ⟨?_, hf1.lt, hf1.key, hf1.obj, hf1.own⟩⟩, .val _ _ ?_⟩
      · show upd gh.G b (o + es.length * sz) b1 = 0
        rw [upd_ne _ _ _ (fun e => hb (by simp [pblocks, e]))]; exact hf1.G
      · rcases ha with ⟨rfl, rfl, _⟩ | ⟨h0, hc0⟩
        · have get : ∀ (i : Nat) (e : VV) (j : Nat) (x : VV), es[i]? = some e → e.cells[j]? = some x → o' + i * sz + j < o' + es.length * sz ∧ c[o' + i * sz + j]? = some (c.getD (o' + i * sz + j) undef) := fun i e j x hi hj => by
            have hil := (List.getElem?_eq_some_iff.1 hi).1
            have hjl : j < sz := by have := (List.getElem?_eq_some_iff.1 hj).1; rw [c4 i e hi] at this; exact this
            have hle : (i + 1) * sz ≤ es.length * sz := Nat.mul_le_mul_right _ hil
            rw [Nat.add_mul, Nat.one_mul] at hle
            have : o' + i * sz + j < c.size := by omega
            exact ⟨by omega, by simp [this]⟩
          refine .lst es b' o' sz cap (fun i j => c.getD (o' + i * sz + j) undef) c4 (fun i e j x hi hj => ?_) (fun i e j x hi hj => ?_) hn
          · obtain ⟨q1, q2⟩ := get i e j x hi hj
            exact ⟨by show _ < upd gh.G b' (o' + es.length * sz) b'; rw [upd_same]; exact q1, by rw [cellAt_of c1]; exact q2⟩
          · exact T.v (c5 i e j x _ hi hj (get i e j x hi hj).2)
        · have : es = [] := List.eq_nil_of_length_eq_zero h0
          subst this
          exact .lst [] b' o' sz cap (fun _ _ => undef) (by simp) (by simp) (by simp) (by simp)
    | cons d ks' =>
      simp only [ofCell] at ho
      split at ho
      · rename_i hd
        simp only [Option.some.injEq, Prod.mk.injEq] at ho
        obtain ⟨rfl, rfl, rfl⟩ := ho
        obtain ⟨T, M'⟩ := M.upd (d := d) (tc := .row ((tget tab d).gen + 1) es sz false) (b := b) (bo := o) (bs := s') (w' := w) hd (.inl (by simp [TC.gen])) (fun h => by simp [TC.gen] at h)
          (fun _ _ => rfl) (Nat.le_refl _) (Still.refl _) (fun d' _ ha => F.key d' ha) F.obj F.own (fun _ _ => rfl) (fun T => by
            refine ⟨c, ty, by simp only [upd_same]; exact c1, by simp only [upd_same]; exact c2, by simp only [upd_same]; rw [c2]; exact c3, c4, fun i e j x v hi hj hv => T.v (c5 i e j x v hi hj (by simpa only [upd_same] using hv)),
              by simp only [upd_same]; exact F.own, fun _ => by simp only [upd_same]; exact F.G, by simp only [upd_same]; rw [F.G]; exact Nat.zero_le _, hpos⟩)
        refine ⟨_, ⟨T, M', fun b1 hb hf1 => ⟨hf1.G, hf1.lt, fun k hk => ?_, hf1.obj, hf1.own⟩⟩, .own _ _ _ _ _ _ _ _ (by rw [tget_set_same hd]; exact Nat.le_refl _) hn fun es' lk he => ?_⟩
        · by_cases hkd : k = d
          · subst hkd; simp only [upd_same]; exact fun e => hb (by simp [pblocks, e])
          · rw [tget_set_ne hkd] at hk; simp only [upd_ne _ _ _ hkd]; exact hf1.key k hk
        · simp only [upd_same]
          rcases ha with ⟨q1, q2, q3⟩ | q
          · exact .inl ⟨q1, by omega, by rw [Nat.zero_add]; exact q3⟩
          · exact .inr q
      · simp at ho

theorem ofCells_run : ∀ {cs : List RV} {vs : List Value} {pl : List Place} {gh : Gh} {tab : List TC} {keys ks : List Nat} {ss : List SV} {tab' : List TC}, Mem E gh tab H w → CsRel gh H.next w cs vs pl →
    (pl.map (·.1)).Nodup → (∀ b, b ∈ pl.map (·.1) → Free E gh tab H w b) → ofCells tab keys cs = some (ss, tab', ks) →
    ∃ gh', Took E H w gh tab gh' tab' (pl.map (·.1)) ∧ SsRel gh' tab' H.next w ss vs := by
  intro cs
  induction cs with
  | nil =>
    intro vs pl gh tab keys ks ss tab' M h _ _ ho
    cases h
    simp [ofCells] at ho
    obtain ⟨rfl, rfl, rfl⟩ := ho
    exact ⟨gh, Took.refl M, by simp, fun i x v hx => by simp at hx⟩
  | cons r cs ih =>
    intro vs pl gh tab keys ks ss tab' M h hn hf ho
    cases h with
    | cons _ v p _ vs' pl' h1 hb h2 =>
      simp only [ofCells] at ho
      split at ho
      · rename_i s t1 k1 ho1
        split at ho
        · rename_i ss2 t2 k2 ho2
          simp only [Option.some.injEq, Prod.mk.injEq] at ho
          obtain ⟨rfl, rfl, rfl⟩ := ho
          rw [List.map_append] at hn hf
          rw [List.nodup_append] at hn
          obtain ⟨n1, n2, n3⟩ := hn
          obtain ⟨gh1, K1, r1⟩ := ofCell_run M h1 (fun b hb => hf b (List.mem_append_left _ hb)) ho1
          have h2' : CsRel gh1 H.next w cs vs' pl' := by
            clear ih ho2 ho1 hf n3 n2 n1 r1
            induction h2 with
            | nil => exact .nil
            | cons r v p rs vs pl h hb hr ih => exact .cons r v p rs vs pl (h.goes K1.goes fun _ _ _ _ => rfl) hb ih
          obtain ⟨gh2, K2, r2⟩ := ih K1.mem h2' n2 (fun b hb => K1.free b (fun hb' => n3 b hb' b hb rfl) (hf b (List.mem_append_right _ hb))) ho2
          refine ⟨gh2, by rw [List.map_append]; exact K1.trans K2, by have := r2.len; simp [this], fun i a b ha hb => ?_⟩
          cases i with
          | zero => simp at ha hb; subst ha; subst hb; exact K2.goes.s r1
          | succ i => exact r2.rel i a b (by simpa using ha) (by simpa using hb)
        · simp at ho
      · simp at ho

theorem CsRel.goes {gh gh' : Gh} {tab tab' : List TC} {nx nx' : Nat} {w : World} {cs : List RV} {vs : List Value} {pl : List Place} (T : Goes gh tab nx w gh' tab' nx' w) (h : CsRel gh nx w cs vs pl) : CsRel gh' nx' w cs vs pl := by
  induction h with
  | nil => exact .nil
  | cons r v p rs vs pl h hb hr ih => exact .cons r v p rs vs pl (h.goes T fun _ _ _ _ => rfl) hb ih

theorem RRel.goes {gh gh' : Gh} {tab tab' : List TC} {nx nx' : Nat} {w : World} {r : RV} {v : Value} {pl : List Place} (T : Goes gh tab nx w gh' tab' nx' w) (h : RRel gh nx w r v pl) : RRel gh' nx' w r v pl := by
  cases h with
  | cell r v p h hb => exact .cell r v p (h.goes T fun _ _ _ _ => rfl) hb
  | st cs l pl h => exact .st cs l pl (h.goes T)

theorem ofRV1_run (M : Mem E gh tab H w) {keys ks : List Nat} {r : RV} {v : Value} {pl : List Place} {s : SV} {tab' : List TC} (h : RRel gh H.next w r v pl) (hn : (pl.map (·.1)).Nodup)
    (hf : ∀ b, b ∈ pl.map (·.1) → Free E gh tab H w b) (ho : ofRV1 tab keys r = some (s, tab', ks)) : ∃ gh', Took E H w gh tab gh' tab' (pl.map (·.1)) ∧ SRel gh' tab' H.next w s v := by
  cases h with
  | cell r v p h hb =>
    have : ofRV1 tab keys r = ofCell tab keys r := by
      cases r <;> first | rfl | (cases h; done)
    rw [this] at ho
    exact ofCell_run M h hf ho
  | st cs l pl h =>
    simp only [ofRV1, Option.map_eq_some_iff] at ho
    obtain ⟨⟨ss, t, k⟩, ho, he⟩ := ho
    simp only [Prod.mk.injEq] at he
    obtain ⟨rfl, rfl, rfl⟩ := he
    obtain ⟨gh', K, r'⟩ := ofCells_run M h hn hf ho
    exact ⟨gh', K, stOf_rel r'⟩

theorem ofRVs_run : ∀ {rs : List RV} {vs : List Value} {pl : List Place} {gh : Gh} {tab : List TC} {keys ks : List Nat} {ss : List SV} {tab' : List TC}, Mem E gh tab H w → RsRel gh H.next w rs vs pl →
    (pl.map (·.1)).Nodup → (∀ b, b ∈ pl.map (·.1) → Free E gh tab H w b) → ofRVs tab keys rs = some (ss, tab', ks) →
    ∃ gh', Took E H w gh tab gh' tab' (pl.map (·.1)) ∧ SsRel gh' tab' H.next w ss vs := by
  intro rs
  induction rs with
  | nil =>
    intro vs pl gh tab keys ks ss tab' M h _ _ ho
    cases h
    simp [ofRVs] at ho
    obtain ⟨rfl, rfl, rfl⟩ := ho
    exact ⟨gh, Took.refl M, by simp, fun i x v hx => by simp at hx⟩
  | cons r rs ih =>
    intro vs pl gh tab keys ks ss tab' M h hn hf ho
    cases h with
    | cons _ v p _ vs' pl' h1 h2 =>
      simp only [ofRVs] at ho
      split at ho
      · rename_i s t1 k1 ho1
        split at ho
        · rename_i ss2 t2 k2 ho2
          simp only [Option.some.injEq, Prod.mk.injEq] at ho
          obtain ⟨rfl, rfl, rfl⟩ := ho
          rw [List.map_append] at hn hf
          rw [List.nodup_append] at hn
          obtain ⟨n1, n2, n3⟩ := hn
          obtain ⟨gh1, K1, r1⟩ := ofRV1_run M h1 n1 (fun b hb => hf b (List.mem_append_left _ hb)) ho1
          have h2' : RsRel gh1 H.next w rs vs' pl' := by
            clear ih ho2 ho1 hf n3 n2 n1 r1
            induction h2 with
            | nil => exact .nil
            | cons r v p rs vs pl h hr ih => exact .cons r v p rs vs pl (h.goes K1.goes) ih
          obtain ⟨gh2, K2, r2⟩ := ih K1.mem h2' n2 (fun b hb => K1.free b (fun hb' => n3 b hb' b hb rfl) (hf b (List.mem_append_right _ hb))) ho2
          refine ⟨gh2, by rw [List.map_append]; exact K1.trans K2, by have := r2.len; simp [this], fun i a b ha hb => ?_⟩
          cases i with
          | zero => simp at ha hb; subst ha; subst hb; exact K2.goes.s r1
          | succ i => exact r2.rel i a b (by simpa using ha) (by simpa using hb)
        · simp at ho
      · simp at ho

theorem RsRel.len {gh : Gh} {nx : Nat} {rs : List RV} {vs : List Value} {pl : List Place} (h : RsRel gh nx w rs vs pl) : vs.length = rs.length := by
  induction h with
  | nil => rfl
  | cons _ _ _ _ _ _ _ _ ih => simp [ih]

theorem ofRV_run (M : Mem E gh tab H w) {keys : List Nat} {rs : List RV} {vs : List Value} {pl : List Place} {s : SV} {tab' : List TC} (h : RsRel gh H.next w rs vs pl) (hn : (pl.map (·.1)).Nodup)
    (hf : ∀ b, b ∈ pl.map (·.1) → Free E gh tab H w b) (ho : ofRV tab keys rs = some (s, tab')) :
    ∃ gh', Goes gh tab H.next w gh' tab' H.next w ∧ Mem E gh' tab' H w ∧ SRel gh' tab' H.next w s (retVal vs) := by
  unfold ofRV at ho
  split at ho
  · rename_i v t k ho1
    simp only [Option.some.injEq, Prod.mk.injEq] at ho
    obtain ⟨rfl, rfl⟩ := ho
    obtain ⟨gh', K, r⟩ := ofRVs_run M h hn hf ho1
    have hl := r.len
    cases vs with
    | nil => simp at hl
    | cons x vs =>
      have : vs = [] := by simpa using hl
      subst this
      exact ⟨gh', K.goes, K.mem, r.rel 0 _ _ rfl rfl⟩
  · rename_i ss t k hne ho1
    simp only [Option.some.injEq, Prod.mk.injEq] at ho
    obtain ⟨rfl, rfl⟩ := ho
    obtain ⟨gh', K, r⟩ := ofRVs_run M h hn hf ho1
    have hl := r.len
    refine ⟨gh', K.goes, K.mem, ?_⟩
    have : retVal vs = .tuple vs.toArray := by
      cases vs with
      | nil => rfl
      | cons x vs =>
        cases vs with
        | nil =>
          cases ss with
          | nil => simp at hl
          | cons y ss =>
            have : ss = [] := by simpa using hl.symm
            subst this
            exact (hne y rfl).elim
        | cons y vs => rfl
    rw [this]
    exact .tup ss vs r.len r.rel
  · simp at ho

end
end Go.Vi

/-
  A call, as the caller sees it.
-/
namespace Go.Vi
set_option linter.unusedVariables false
set_option linter.unusedSimpArgs false

/-- what an operation comes to -/
def StepsTo (P : Program) (o : Oper) (a : Act) (w : World) (R : Value → World → Prop) : Prop :=
  ∀ (next : Act → World → Prop) (Q : Exit → Act → World → Prop), (∀ v w', R v w' → next (a.put o.dst v) w') → o.wp P a w next Q

def Res (E : En) (gh : Gh) (tab : List TC) (H : Hp) (w : World) (s : St) (v : Value) (w' : World) : Prop :=
  ∃ gh', Goes gh tab H.next w gh' s.tab s.hp.next w' ∧ Mem E gh' s.tab s.hp w' ∧ SRel gh' s.tab s.hp.next w' s.v v

theorem Stepped.steps {P : Program} {E : En} {gh : Gh} {tab : List TC} {H : Hp} {w : World} {o : Oper} {a : Act} {s : St} (h : Stepped P E gh tab H w a.eval o s) : StepsTo P o a w (Res E gh tab H w s) := by
  obtain ⟨gh', v, w', hout, T, M, S⟩ := h
  intro next Q hn
  have := hn v w' ⟨gh', T, M, S⟩
  unfold Oper.wp
  rcases hout with h | ⟨h, rfl⟩
  · rw [h]; exact this
  · rw [h]; exact this

section
variable {α β : Type}

theorem app3 {A B C : List α} {i : Nat} {a : α} (h : (A ++ B ++ C)[i]? = some a) :
    (i < A.length ∧ A[i]? = some a) ∨ (A.length ≤ i ∧ i < A.length + B.length ∧ B[i - A.length]? = some a) ∨ (A.length + B.length ≤ i ∧ C[i - (A.length + B.length)]? = some a) := by
  rw [List.getElem?_append, List.getElem?_append] at h
  simp only [List.length_append] at h
  split at h
  · split at h
    · exact .inl ⟨by assumption, h⟩
    · exact .inr (.inl ⟨by omega, by omega, h⟩)
  · exact .inr (.inr ⟨by omega, h⟩)
end

section
variable {P : Program} {E : En} {gh : Gh} {tab : List TC} {H : Hp} {w : World}

/-- a result goes over to other ghosts -/
theorem ARel.to {gh2 : Gh} {nx nx2 : Nat} {ok : VV → Bool} (hV : ∀ x v, ok x = true → VR gh nx w x v → VR gh2 nx2 w x v) {r : RV} {v : Value} {p : Option Place}
    (hr : match r with | .val u => ok u = true | .full es => ok (.lst es) = true | .own es _ => ∀ e, e ∈ es → ∀ x, x ∈ e.cells → ok x = true | .box cs _ => ∀ x, x ∈ cs → ok x = true | .st _ => True)
    (h : ARel gh nx w r v p) : ARel gh2 nx2 w r v p := by
  cases h with
  | val u x h => exact .val _ _ (hV _ _ hr h)
  | full es a n h => exact .full _ _ _ (hV _ _ hr h)
  | own es n sz b o s b' o' cap hl h hn ha =>
    obtain ⟨q, c, ty, h1, h2, h3, h4, h5⟩ := h
    exact .own es n sz b o s b' o' cap hl ⟨q, c, ty, h1, h2, h3, h4, fun i e j x v a b c => hV _ _ (hr e (List.mem_of_getElem? a) x (List.mem_of_getElem? b)) (h5 i e j x v a b c)⟩ hn ha
  | box cs off b s h =>
    obtain ⟨c, ty, h1, h2, h3⟩ := h
    exact .box cs off b s ⟨c, ty, h1, h2, fun i x v a b => hV _ _ (hr x (List.mem_of_getElem? a)) (h3 i x v a b)⟩

def okR1 (ok : VV → Bool) : RV → Prop
  | .val u => ok u = true
  | .full es => ok (.lst es) = true
  | .own es _ => ∀ e, e ∈ es → ∀ x, x ∈ e.cells → ok x = true
  | .box cs _ => ∀ x, x ∈ cs → ok x = true
  | .st _ => True

def okR (ok : VV → Bool) : RV → Prop
  | .st cs => ∀ r, r ∈ cs → okR1 ok r
  | r => okR1 ok r

theorem CsRel.to {gh2 : Gh} {nx nx2 : Nat} {ok : VV → Bool} (hV : ∀ x v, ok x = true → VR gh nx w x v → VR gh2 nx2 w x v) {cs : List RV} {vs : List Value} {pl : List Place} (h : CsRel gh nx w cs vs pl)
    (hr : ∀ r, r ∈ cs → okR1 ok r) : CsRel gh2 nx2 w cs vs pl := by
  induction h with
  | nil => exact .nil
  | cons r v p rs vs pl h hb _ ih =>
    refine .cons r v p rs vs pl (h.to hV ?_) hb (ih fun r hr' => hr r (List.mem_cons_of_mem _ hr'))
    have := hr r (by simp)
    cases r <;> exact this

theorem RsRel.to {gh2 : Gh} {nx nx2 : Nat} {ok : VV → Bool} (hV : ∀ x v, ok x = true → VR gh nx w x v → VR gh2 nx2 w x v) {rs : List RV} {vs : List Value} {pl : List Place} (h : RsRel gh nx w rs vs pl)
    (hr : ∀ r, r ∈ rs → okR ok r) : RsRel gh2 nx2 w rs vs pl := by
  induction h with
  | nil => exact .nil
  | cons r v p rs vs pl h _ ih =>
    refine .cons r v p rs vs pl ?_ (ih fun r hr' => hr r (List.mem_cons_of_mem _ hr'))
    have := hr r (by simp)
    cases h with
    | cell r v p h hb => exact .cell r v p (h.to hV (by cases r <;> first | exact this | trivial)) hb
    | st cs l _ h => exact .st cs l _ (h.to hV this)

theorem BackIn.to {gh2 : Gh} {nx nx2 : Nat} {ok : VV → Bool} (hV : ∀ x v, ok x = true → VR gh nx w x v → VR gh2 nx2 w x v) {p : Place} {r : RV} (h : BackIn gh nx w p r) (hr : okR1 ok r) : BackIn gh2 nx2 w p r := by
  cases h with
  | row es sz b o s h =>
    obtain ⟨q, c, ty, h1, h2, h3, h4, h5⟩ := h
    exact .row es sz b o s ⟨q, c, ty, h1, h2, h3, h4, fun i e j x v a b c => hV _ _ (hr e (List.mem_of_getElem? a) x (List.mem_of_getElem? b)) (h5 i e j x v a b c)⟩
  | box cs off b o s h =>
    obtain ⟨c, ty, h1, h2, h3⟩ := h
    exact .box cs off b o s ⟨c, ty, h1, h2, fun i x v a b => hV _ _ (hr x (List.mem_of_getElem? a)) (h3 i x v a b)⟩

theorem flatV_cells {e x : VV} (h : flatV e = true) (hx : x ∈ e.cells) : flatV x = true := by
  cases e <;> simp only [VV.cells, List.mem_singleton] at hx <;> first | (subst hx; exact h) | skip
  simp only [flatV] at h
  have := List.all_eq_true.1 h x hx
  cases x <;> first | rfl | (simp at this; done) | skip
  rename_i o
  cases o <;> first | rfl | (simp at this; done)

theorem okR1_flat {r : RV} (h : flatR1 r = true) : okR1 flatV r := by
  cases r with
  | val u => exact h
  | full es => simp [flatR1] at h
  | own es sz => exact fun e he x hx => flatV_cells (List.all_eq_true.1 h e he) hx
  | box cs off => exact fun x hx => List.all_eq_true.1 h x hx
  | st cs => trivial

theorem okR_flat {r : RV} (h : flatR r = true) : okR flatV r := by
  cases r with
  | st cs => exact fun r hr => okR1_flat (List.all_eq_true.1 h r hr)
  | val u => exact okR1_flat (r := .val u) h
  | full es => exact okR1_flat (r := .full es) h
  | own es sz => exact okR1_flat (r := .own es sz) h
  | box cs off => exact okR1_flat (r := .box cs off) h

theorem okR1_all (r : RV) : okR1 (fun _ => true) r := by
  cases r with
  | val u => rfl
  | full es => rfl
  | own es sz => exact fun _ _ _ _ => rfl
  | box cs off => exact fun _ _ => rfl
  | st cs => trivial

theorem okR_all (r : RV) : okR (fun _ => true) r := by
  cases r with
  | st cs => exact fun r _ => okR1_all r
  | val u => exact okR1_all (.val u)
  | full es => exact okR1_all (.full es)
  | own es sz => exact okR1_all (.own es sz)
  | box cs off => exact okR1_all (.box cs off)

/-- places of what is lent -/
theorem lentPl_plain {mode : Nat → Nat} : ∀ (l : List VV) (k : Nat) (pl : List (Option Place)), lentPl mode k (l.map .val) pl = []
  | [], _, _ => rfl
  | x :: l, k, [] => rfl
  | x :: l, k, p :: pl => by simp [lentPl, isOwned, lentPl_plain l]

theorem lentPl_append {mode : Nat → Nat} : ∀ (A B : List RV) (k : Nat) (p q : List (Option Place)), p.length = A.length → lentPl mode k (A ++ B) (p ++ q) = lentPl mode k A p ++ lentPl mode (k + A.length) B q
  | [], B, k, [], q, _ => by simp [lentPl]
  | [], B, k, x :: p, q, h => by simp at h
  | a :: A, B, k, [], q, h => by simp at h
  | a :: A, B, k, x :: p, q, h => by
    simp only [List.cons_append, lentPl, lentPl_append A B (k + 1) p q (by simpa using h), List.append_assoc, List.length_cons]
    rw [show k + 1 + A.length = k + (A.length + 1) by omega]

theorem lentPl_hands {mode : Nat → Nat} (gh1 : Gh) : ∀ (rs : List RV) (hs : List Hand) (k : Nat), hs.length = rs.length →
    (∀ (i : Nat) (r : RV) (h : Hand), rs[i]? = some r → hs[i]? = some h → ((mode (k + i) = 2 ∧ isOwned r = true) ↔ h.ln.isSome = true)) →
    lentPl mode k rs (hs.map (Hand.pl gh1)) = (hs.filterMap Hand.ln).map (Lent.pl gh1)
  | [], [], _, _, _ => rfl
  | [], h :: hs, _, hl, _ => by simp at hl
  | r :: rs, [], _, hl, _ => by simp at hl
  | r :: rs, h :: hs, k, hl, hh => by
    have ih := lentPl_hands gh1 rs hs (k + 1) (by simpa using hl) (fun i r' h' hr hh' => by
      have := hh (i + 1) r' h' (by simpa using hr) (by simpa using hh')
      rw [show k + 1 + i = k + (i + 1) by omega]; exact this)
    have h0 := hh 0 r h rfl rfl
    simp only [Nat.add_zero] at h0
    simp only [List.map_cons, lentPl, ih]
    cases h with
    | no =>
      have : ¬ (mode k = 2 ∧ isOwned r = true) := fun e => by simpa [Hand.ln] using h0.1 e
      rw [if_neg this, List.filterMap_cons]; simp [Hand.ln]
    | taken d o =>
      have : ¬ (mode k = 2 ∧ isOwned r = true) := fun e => by simpa [Hand.ln] using h0.1 e
      rw [if_neg this, List.filterMap_cons]; simp [Hand.ln]
    | lent l =>
      rw [if_pos (h0.2 (by simp [Hand.ln]))]
      simp [Hand.ln, Hand.pl]

theorem nodup_filterMap {α : Type} {f : α → Option Nat} : ∀ {l : List α} {i j : Nat} {x y : α} {d : Nat}, (l.filterMap f).Nodup → i < j → l[i]? = some x → l[j]? = some y → f x = some d → f y = some d → False := by
  intro l
  induction l with
  | nil => intro i j x y d _ _ h; simp at h
  | cons a l ih =>
    intro i j x y d hn hij hi hj hx hy
    cases j with
    | zero => omega
    | succ j =>
      rw [List.filterMap_cons] at hn
      cases i with
      | zero =>
        simp only [List.getElem?_cons_zero, Option.some.injEq] at hi
        subst hi
        rw [hx] at hn
        simp only [List.nodup_cons] at hn
        exact hn.1 (List.mem_filterMap.2 ⟨y, List.mem_of_getElem? (by simpa using hj), hy⟩)
      | succ i =>
        refine ih ?_ (by omega : i < j) (by simpa using hi) (by simpa using hj) hx hy
        cases hfa : f a with
        | none => rw [hfa] at hn; exact hn
        | some b => rw [hfa] at hn; exact (List.nodup_cons.1 hn).2

theorem nodupN_nodup : ∀ {l : List Nat}, nodupN l = true → l.Nodup
  | [], _ => .nil
  | a :: l, h => by
    simp only [nodupN, Bool.and_eq_true, Bool.not_eq_true', List.contains_eq_mem, decide_eq_false_iff_not] at h
    exact List.nodup_cons.2 ⟨h.1, nodupN_nodup h.2⟩

theorem hand_key {gh1 : Gh} {h : Hand} {b o s : Nat} (hp : h.pl gh1 = some (b, o, s)) : ∃ d, b = gh1.β d ∧ ((∃ o, h = .taken d o) ∨ ∃ l, h = .lent l ∧ l.key = d) := by
  cases h with
  | no => simp [Hand.pl] at hp
  | taken d o' => simp [Hand.pl] at hp; exact ⟨d, hp.1.symm, .inl ⟨o', rfl⟩⟩
  | lent l =>
    cases l with
    | row d g => simp [Hand.pl, Lent.pl] at hp; exact ⟨d, hp.1.symm, .inr ⟨_, rfl, rfl⟩⟩
    | box d g => simp [Hand.pl, Lent.pl] at hp; exact ⟨d, hp.1.symm, .inr ⟨_, rfl, rfl⟩⟩

/-- what a call leaves behind -/
theorem calls_back {mode : Nat → Nat} {args rs bs : List RV} {ghb gh1 gh' : Gh} {tabb tab2 tab3 : List TC} {H0 H' : Hp} {w' : World} {pl : List (Option Place)} {ln : List Lent} {keys : List Nat} {s : SV} {v : Value} {borrow pure : Bool}
    (Mb : Mem E ghb tabb H w) (h0 : H0 = if pure then Hp.bare H.next else H) (hsame : gh1.μ = ghb.μ ∧ gh1.β = ghb.β ∧ gh1.bo = ghb.bo ∧ gh1.bs = ghb.bs)
    (hb : (borrow = false ∧ ghb = gh1) ∨ (borrow = true ∧ pure = true ∧ (∀ r, r ∈ rs → flatR r = true) ∧ ∀ r, r ∈ bs → flatR r = true))
    (hL : ∀ b, Lof pl b → ghb.G b = 0 ∧ (E.n0 ≤ b ∨ E.L b) ∧ ∀ o, H.objs o ≠ none → (ghb.μ o).blk ≠ b)
    (hk : ∀ d, (tget tabb d).active = true → d ∉ ln.map Lent.key → ¬ Lof pl (ghb.β d)) (hkl : ∀ d, d ∈ ln.map Lent.key → Lof pl (ghb.β d))
    (hpl : lentPl mode 0 args pl = ln.map (Lent.pl gh1)) (post : Post mode gh1 H0 w args pl rs bs H' v gh' w') (hnx : pure = true → H'.next = H.next)
    (hnd : nodupN (ln.map Lent.key) = true) (hback : backV tabb ln bs = some tab2) (hrv : ofRV tab2 keys rs = some (s, tab3)) :
    ∃ gh3, Goes ghb tabb H.next w gh3 tab3 (if pure then H else H').next w' ∧ Mem E gh3 tab3 (if pure then H else H') w' ∧ SRel gh3 tab3 (if pure then H else H').next w' s v := by
  obtain ⟨Lv, ⟨vl, rp, hrr, rfl, hndp, hpp⟩, hbl, hbk⟩ := post
  obtain ⟨q1, q2, q3, q4⟩ := backV_run hback hnd
  rw [hpl] at hndp hpp hbl hbk
  have hp : (pure = true ∧ (∀ o, H0.objs o = none)) ∨ (pure = false ∧ H0 = H ∧ ghb = gh1) := by
    cases pure with
    | true => exact .inl ⟨rfl, fun o => by rw [h0]; rfl⟩
    | false =>
      refine .inr ⟨rfl, by rw [h0]; rfl, ?_⟩
      rcases hb with h | ⟨_, h, _⟩
      · exact h.2
      · cases h
  have hn0 : H0.next = H.next := by rw [h0]; cases pure <;> rfl
  have hLp : ∀ l, l ∈ ln → gh'.G (ghb.β l.key) = 0 := fun l hl => by
    have hm : l.pl gh1 ∈ rp ++ ln.map (Lent.pl gh1) := List.mem_append_right _ (List.mem_map_of_mem hl)
    have := (hpp _ hm).1
    have e : (l.pl gh1).1 = ghb.β l.key := by rw [← hsame.2.1]; cases l <;> rfl
    rw [e] at this; exact this
  -- values go over
  have hV : ∀ x y, (if borrow then flatV else fun _ => true) x = true → VR gh' H'.next w' x y → VR (behind ghb gh' w (Lof pl) pure) (if pure then H else H').next w' x y := by
    intro x y hx h
    rcases hb with ⟨rfl, rfl⟩ | ⟨rfl, _⟩
    · refine VRel.mono ?_ (fun o ho => ?_) (fun b => ?_) (fun _ _ _ => rfl) h
      · cases pure with
        | true => rw [hnx rfl]; exact Nat.le_refl _
        | false => exact Nat.le_refl _
      · cases pure with
        | true =>
          show ghb.μ o = gh'.μ o
          exact (Lv.μ o (by rw [hn0, ← hnx rfl]; exact ho)).symm
        | false => rfl
      · by_cases hb : b < w.heap.size ∧ ¬ Lof pl b
        · rw [behind_G hb.1 hb.2, Lv.oldG b hb.1 hb.2]; exact Nat.le_refl _
        · have : w.heap.size ≤ b ∨ Lof pl b := by
            by_cases h1 : b < w.heap.size
            · exact .inr (Classical.byContradiction fun h2 => hb ⟨h1, h2⟩)
            · exact .inl (by omega)
          rw [behind_G' this]; exact Nat.le_refl _
    · exact VRel.flat hx h
  have hokR : ∀ r, r ∈ rs → okR (if borrow then flatV else fun _ => true) r := fun r hr => by
    rcases hb with ⟨rfl, rfl⟩ | ⟨rfl, _, hf, _⟩
    · exact okR_all r
    · exact okR_flat (hf r hr)
  have hokB : ∀ r, r ∈ bs → okR (if borrow then flatV else fun _ => true) r := fun r hr => by
    rcases hb with ⟨rfl, rfl⟩ | ⟨rfl, _, _, hf⟩
    · exact okR_all r
    · exact okR_flat (hf r hr)
  have hback1 : ∀ (k : Nat) (l : Lent) (r : RV), ln[k]? = some l → bs[k]? = some r → BackIn (behind ghb gh' w (Lof pl) pure) (if pure then H else H').next w' (l.pl gh1) r := fun k l r hl hr => by
    have h1 := hbk k (l.pl gh1) r (by rw [List.getElem?_map, hl]; rfl) hr
    refine BackIn.to hV h1 ?_
    have := hokB r (List.mem_of_getElem? hr)
    clear hV hbk hpp hndp
    generalize l.pl gh1 = p at h1
    cases h1 <;> exact this
  have hTB : TabBack (behind ghb gh' w (Lof pl) pure) (if pure then H else H').next w' tabb tab2 ln := by
    refine ⟨q1, q3, fun d g hl => ?_, fun d g hl => ?_⟩
    · obtain ⟨k, hk⟩ := List.getElem?_of_mem hl
      have hkb : k < bs.length := by rw [q2]; exact (List.getElem?_eq_some_iff.1 hk).1
      have hr := List.getElem?_eq_getElem hkb
      obtain ⟨es0, es, sz, e1, e2, e3, e4⟩ := q4 k _ _ hk hr
      have h1 := hback1 k _ _ hk hr
      rw [e1] at h1
      refine ⟨es0, es, sz, e2, e3, ?_⟩
      have e : Lent.pl gh1 (.row d g) = (ghb.β d, ghb.bo d, ghb.bs d) := by simp only [Lent.pl]; rw [hsame.2.1, hsame.2.2.1, hsame.2.2.2]
      rw [e] at h1
      cases h1 with
      | row _ _ _ _ _ h => exact h
    · obtain ⟨k, hk⟩ := List.getElem?_of_mem hl
      have hkb : k < bs.length := by rw [q2]; exact (List.getElem?_eq_some_iff.1 hk).1
      have hr := List.getElem?_eq_getElem hkb
      obtain ⟨cs0, cs, off, e1, e2, e3, e4⟩ := q4 k _ _ hk hr
      have h1 := hback1 k _ _ hk hr
      rw [e1] at h1
      refine ⟨cs0, cs, e2, e3, ?_⟩
      have e : Lent.pl gh1 (.box d g) = (ghb.β d, 0, ghb.bs d) := by simp only [Lent.pl]; rw [hsame.2.1, hsame.2.2.2]
      rw [e] at h1
      cases h1 with
      | box _ _ _ _ _ h => exact h
  obtain ⟨T, M2⟩ := Mb.after (tab2 := tab2) (w' := w') (L := Lof pl) (pure := pure) (ln := ln) Lv hp hsame.1 hL hk (fun d hd => ⟨hkl d hd, by
    obtain ⟨l, hl, rfl⟩ := List.mem_map.1 hd
    exact hLp l hl⟩) (fun _ d hd o ho => by
    obtain ⟨l, hl, rfl⟩ := List.mem_map.1 hd
    have h5 := (hpp (l.pl gh1) (List.mem_append_right _ (List.mem_map_of_mem hl))).2.2.2 o ho
    have e5 : (l.pl gh1).1 = ghb.β l.key := by rw [← hsame.2.1]; cases l <;> rfl
    rw [e5] at h5; exact h5) (fun _ => hTB) ⟨_, _, hTB⟩
  have hrr2 := RsRel.to hV hrr hokR
  rw [List.map_append, List.nodup_append] at hndp
  have hfree : ∀ b, b ∈ rp.map (·.1) → Free E (behind ghb gh' w (Lof pl) pure) tab2 (if pure then H else H') w' b := fun b hbm => by
    obtain ⟨p, hpm, rfl⟩ := List.mem_map.1 hbm
    obtain ⟨a1, a2, a3, a4⟩ := hpp p (List.mem_append_left _ hpm)
    refine ⟨?_, a3, fun d hd => ?_, fun o ho => ?_, ?_⟩
    · rw [behind_G' a2]; exact a1
    · show ghb.β d ≠ p.1
      rw [(hTB.gen d).2] at hd
      intro e
      rcases a2 with h | h
      · have := Mb.lt hd; omega
      · by_cases hdl : d ∈ ln.map Lent.key
        · obtain ⟨l, hl, rfl⟩ := List.mem_map.1 hdl
          refine hndp.2.2 p.1 hbm (ghb.β l.key) ?_ e.symm
          refine List.mem_map.2 ⟨l.pl gh1, List.mem_map_of_mem hl, ?_⟩
          rw [← hsame.2.1]; cases l <;> rfl
        · exact hk d hd hdl (by rw [e]; exact h)
    · cases pure with
      | true =>
        show (ghb.μ o).blk ≠ p.1
        intro e
        rcases a2 with h | h
        · have := (Mb.objLt o ho).2.2; omega
        · exact (hL _ h).2.2 o ho e
      | false => exact a4 o ho
    · rcases a2 with h | h
      · exact .inl (Nat.le_trans Mb.size h)
      · exact (hL _ h).2.1
  obtain ⟨gh3, T3, M3, S3⟩ := ofRV_run M2 hrr2 hndp.1 hfree hrv
  exact ⟨gh3, T.trans T3, M3, S3⟩

end
end Go.Vi

/-
  A call, as the caller sees it.
-/
namespace Go.Vi
set_option linter.unusedVariables false
set_option linter.unusedSimpArgs false
set_option maxHeartbeats 1000000

section
variable {P : Program} {E : En} {gh : Gh} {tab : List TC} {H : Hp} {w : World}

theorem callsV_runG {pol : Pol} {keys : Nat → List Nat} {call : CallV} (hcall : CallOk P pol call) (M : Mem E gh tab H w) {ρ : Operand → Option SV} {a : Act}
    (hρ : ∀ x s, ρ x = some s → SRel gh tab H.next w s (a.eval x)) {o : Oper} {c : Call} {fo : Option SV} {s : St}
    (hfun : ∀ fid first captured, fo = some (.val (.func fid first captured)) → ∃ l1 l2 : List Value, l1.length = first.length ∧ l2.length = captured.length ∧ (∀ (i : Nat) (x : VV) (v : Value), first[i]? = some x → l1[i]? = some v → VR gh H.next w x v) ∧
      (∀ (i : Nat) (x : VV) (v : Value), captured[i]? = some x → l2[i]? = some v → VR gh H.next w x v) ∧ (execOp a.eval o).run P w = (callFunc fid (l1.toArray ++ c.args.map a.eval ++ l2.toArray)).run P w)
    (h : callsV pol keys call o.dst fo (c.args.toList.map ρ) tab H = some s) : StepsTo P o a w (Res E gh tab H w s) := by
  unfold callsV at h
  split at h
  · rename_i fid first captured as has
    split at h
    · rename_i vs tab1 ln hargs
      split at h
      · simp at h
      · rename_i hchk
        split at h
        · rename_i r back H' hres
          split at h
          · simp at h
          · rename_i hpure
            split at h
            · rename_i tab2 hback
              split at h
              · rename_i sv tab3 hrv
                simp only [Option.some.injEq] at h
                subst h
                -- the function value
                obtain ⟨l1, l2, e1, e2, hr1, hr2, hex⟩ := hfun fid first captured rfl
                -- the arguments
                have has' : c.args.toList.mapM ρ = some as := by rw [← has, List.mapM_map]; rfl
                obtain ⟨m1, m2⟩ := mapM_some has'
                have hss : SsRel gh tab H.next w as (c.args.toList.map a.eval) := ⟨by simp [m1], fun i x u hx hu => by
                  simp only [List.getElem?_map, Option.map_eq_some_iff] at hu
                  obtain ⟨y, hy, rfl⟩ := hu
                  exact hρ _ _ (m2 i y x hy hx)⟩
                obtain ⟨gh1, hs, K, k1, k2, k3, k4, k5, k7, k6⟩ := outArgs_run M hss hargs
                simp only [Bool.not_eq_true', Bool.not_eq_false', Bool.not_eq_true, Bool.and_eq_true, Bool.not_eq_false] at hchk
                obtain ⟨hst, hnd⟩ := hchk
                have hlact : ∀ l, l ∈ ln → (tget tab1 l.key).active = true ∧ gh1.G (gh1.β l.key) = 0 := fun l hl => by
                  have := List.all_eq_true.1 hst l hl
                  have hT := K.mem.tabR l.key
                  cases l with
                  | row d g =>
                    simp only [stillOwn] at this
                    simp only [Lent.key] at hT ⊢
                    split at this
                    · rename_i g' es sz hr
                      exact ⟨by rw [hr]; rfl, row_G K.mem hr⟩
                    · simp at this
                  | box d g =>
                    simp only [stillOwn] at this
                    simp only [Lent.key] at hT ⊢
                    split at this
                    · rename_i g' cs hr
                      rw [hr] at hT
                      obtain ⟨_, _, _, _, _, _, hG⟩ := hT
                      exact ⟨by rw [hr]; rfl, hG rfl⟩
                    · simp at this
                have hrel := k6 fun l hl => (hlact l hl).1
                have hsame := K.same
                have hvl := k2
                have hl3 : hs.length = as.length := k3
                -- places
                let pl : List (Option Place) := (first.map fun _ => (none : Option Place)) ++ hs.map (Hand.pl gh1) ++ captured.map fun _ => (none : Option Place)
                let vals : List Value := l1 ++ c.args.toList.map a.eval ++ l2
                have hpl : ∀ (i b o s : Nat), pl[i]? = some (some (b, o, s)) → ∃ h, hs[i - first.length]? = some h ∧ first.length ≤ i ∧ h.pl gh1 = some (b, o, s) := fun i b o s hi => by
                  rcases app3 hi with ⟨_, q⟩ | ⟨q1, q2, q⟩ | ⟨_, q⟩
                  · simp only [List.getElem?_map, Option.map_eq_some_iff] at q
                    obtain ⟨_, _, q⟩ := q; cases q
                  · simp only [List.getElem?_map, Option.map_eq_some_iff, List.length_map] at q q1
                    obtain ⟨h, q3, q4⟩ := q
                    exact ⟨h, q3, q1, q4⟩
                  · simp only [List.getElem?_map, Option.map_eq_some_iff] at q
                    obtain ⟨_, _, q⟩ := q; cases q
                have tkmem : ∀ d o', Hand.taken d o' ∈ hs → (tget tab d).active = true ∧ (tget tab1 d).active = false ∧ gh1.G (gh1.β d) = 0 := fun d o' hd => by
                  have hk : d ∈ hs.filterMap Hand.tk := List.mem_filterMap.2 ⟨_, hd, rfl⟩
                  obtain ⟨q1, q2⟩ := K.gone d hk
                  exact ⟨q1, q2, by rw [hsame.2.1]; exact K.Gk d hk⟩
                have lnmem : ∀ l, Hand.lent l ∈ hs → l ∈ ln := fun l hl => by rw [← k1]; exact List.mem_filterMap.2 ⟨_, hl, rfl⟩
                have keyact : ∀ h b o s, h ∈ hs → h.pl gh1 = some (b, o, s) → ∃ d, b = gh1.β d ∧ (tget tab d).active = true ∧ gh1.G b = 0 ∧ ((∃ o, h = .taken d o) ∨ ∃ l, h = .lent l ∧ l.key = d) := fun h b o s hh hp => by
                  obtain ⟨d, rfl, hd⟩ := hand_key hp
                  refine ⟨d, rfl, ?_, ?_, hd⟩
                  · rcases hd with ⟨o', rfl⟩ | ⟨l, rfl, rfl⟩
                    · exact (tkmem d o' hh).1
                    · exact k4 l (lnmem l hh)
                  · rcases hd with ⟨o', rfl⟩ | ⟨l, rfl, rfl⟩
                    · exact (tkmem d o' hh).2.2
                    · exact (hlact l (lnmem l hh)).2
                have henter : Enter gh1 (if pol.pure fid then Hp.bare H.next else H) w (first.map .val ++ vs ++ captured.map .val) vals pl := by
                  refine ⟨?_, ?_, ?_, fun i r v p hr hv hp => ?_, fun i b o s hi => ?_, fun i j b o s b' o' s' hij hi hj => ?_⟩
                  · split
                    · exact ⟨fun o obj h => by simp [Hp.bare] at h, fun o h => by simp [Hp.bare] at h, fun o o' _ h => by simp [Hp.bare] at h, K.mem.G0⟩
                    · exact K.mem.objs
                  · simp [vals, e1, e2, hvl, m1]
                  · simp [pl, hvl, hl3]
                  · have hnx : (if pol.pure fid then Hp.bare H.next else H).next = H.next := by split <;> rfl
                    rw [hnx]
                    rcases app3 hr with ⟨q0, q⟩ | ⟨q0, q1, q⟩ | ⟨q0, q⟩
                    · simp only [List.length_map] at q0
                      have hv' : l1[i]? = some v := by
                        rcases app3 hv with ⟨_, x⟩ | ⟨x0, _, _⟩ | ⟨x0, _⟩
                        · exact x
                        · omega
                        · simp only [List.length_map] at x0; omega
                      have hp' : p = none := by
                        rcases app3 hp with ⟨_, x⟩ | ⟨x0, _, _⟩ | ⟨x0, _⟩
                        · simp only [List.getElem?_map, Option.map_eq_some_iff] at x
                          obtain ⟨_, _, x⟩ := x; exact x.symm
                        · simp only [List.length_map] at x0; omega
                        · simp only [List.length_map] at x0; omega
                      subst hp'
                      simp only [List.getElem?_map, Option.map_eq_some_iff] at q
                      obtain ⟨u, q, rfl⟩ := q
                      exact .val _ _ (K.goes.v (hr1 i u v q hv'))
                    · simp only [List.length_map] at q0 q1
                      have hv' : (c.args.toList.map a.eval)[i - first.length]? = some v := by
                        rcases app3 hv with ⟨x0, x⟩ | ⟨x0, _, x⟩ | ⟨x0, _⟩
                        · omega
                        · rw [e1] at x; exact x
                        · simp only [List.length_map] at x0; omega
                      have hp' : ∃ h, hs[i - first.length]? = some h ∧ p = h.pl gh1 := by
                        rcases app3 hp with ⟨x0, x⟩ | ⟨x0, _, x⟩ | ⟨x0, _⟩
                        · simp only [List.length_map] at x0; omega
                        · simp only [List.getElem?_map, Option.map_eq_some_iff, List.length_map] at x
                          obtain ⟨h, x1, x2⟩ := x; exact ⟨h, x1, x2.symm⟩
                        · simp only [List.length_map] at x0; omega
                      obtain ⟨h, hh, rfl⟩ := hp'
                      simp only [List.length_map] at q
                      exact (hrel _ r v h q hv' hh).arel
                    · simp only [List.length_map] at q0
                      have hv' : l2[i - (first.length + vs.length)]? = some v := by
                        rcases app3 hv with ⟨x0, x⟩ | ⟨x0, x1, x⟩ | ⟨x0, x⟩
                        · omega
                        · simp only [List.length_map] at x1; omega
                        · simp only [List.length_map] at x
                          rw [show first.length + vs.length = l1.length + c.args.toList.length by omega]; exact x
                      have hp' : p = none := by
                        rcases app3 hp with ⟨x0, x⟩ | ⟨x0, x1, x⟩ | ⟨x0, x⟩
                        · simp only [List.length_map] at x0; omega
                        · simp only [List.length_map] at x1; omega
                        · simp only [List.getElem?_map, Option.map_eq_some_iff] at x
                          obtain ⟨_, _, x⟩ := x; exact x.symm
                      subst hp'
                      simp only [List.getElem?_map, List.length_map, Option.map_eq_some_iff] at q
                      obtain ⟨u, q, rfl⟩ := q
                      exact .val _ _ (K.goes.v (hr2 _ u v q hv'))
                  · obtain ⟨h, q1, q2, q3⟩ := hpl i b o s hi
                    obtain ⟨d, rfl, q4, q5, _⟩ := keyact h b o s (List.mem_of_getElem? q1) q3
                    refine ⟨q5, fun o' ho' => ?_⟩
                    have hlive : H.objs o' ≠ none := by
                      split at ho'
                      · simp [Hp.bare] at ho'
                      · exact ho'
                    rw [hsame.1, hsame.2.1]
                    exact (M.objApart d o' q4 hlive).symm
                  · obtain ⟨h, q1, q2, q3⟩ := hpl i b o s hi
                    obtain ⟨h', p1, p2, p3⟩ := hpl j b' o' s' hj
                    obtain ⟨d, rfl, q4, _, q6⟩ := keyact h b o s (List.mem_of_getElem? q1) q3
                    obtain ⟨d', rfl, p4, _, p6⟩ := keyact h' b' o' s' (List.mem_of_getElem? p1) p3
                    rw [hsame.2.1]
                    refine M.apart d d' (fun e => ?_) q4 p4
                    subst e
                    rcases q6 with ⟨oo, rfl⟩ | ⟨l, rfl, hl⟩
                    · rcases p6 with ⟨oo', rfl⟩ | ⟨l', rfl, hl'⟩
                      · rcases Nat.lt_or_gt_of_ne (show i - first.length ≠ j - first.length by omega) with hlt | hlt
                        · exact nodup_filterMap (d := d) K.nodup hlt q1 p1 rfl rfl
                        · exact nodup_filterMap (d := d) K.nodup hlt p1 q1 rfl rfl
                      · have x1 := (tkmem d oo (List.mem_of_getElem? q1)).2.1
                        have x2 := (hlact l' (lnmem l' (List.mem_of_getElem? p1))).1
                        rw [hl', x1] at x2; cases x2
                    · rcases p6 with ⟨oo', rfl⟩ | ⟨l', rfl, hl'⟩
                      · have x1 := (tkmem d oo' (List.mem_of_getElem? p1)).2.1
                        have x2 := (hlact l (lnmem l (List.mem_of_getElem? q1))).1
                        rw [hl, x1] at x2; cases x2
                      · have hnd' : (hs.filterMap fun h => h.ln.map Lent.key).Nodup := by
                          have := nodupN_nodup hnd
                          rw [← k1, List.map_filterMap] at this
                          exact this
                        rcases Nat.lt_or_gt_of_ne (show i - first.length ≠ j - first.length by omega) with hlt | hlt
                        · exact nodup_filterMap (d := d) hnd' hlt q1 p1 (by simp [Hand.ln, hl]) (by simp [Hand.ln, hl'])
                        · exact nodup_filterMap (d := d) hnd' hlt p1 q1 (by simp [Hand.ln, hl']) (by simp [Hand.ln, hl])
                have hlof : ∀ b, Lof pl b → ∃ h, h ∈ hs ∧ ∃ o s, h.pl gh1 = some (b, o, s) := fun b ⟨i, o, s, hi⟩ => by
                  obtain ⟨h, q1, _, q3⟩ := hpl i b o s hi
                  exact ⟨h, List.mem_of_getElem? q1, o, s, q3⟩
                have hlpl : lentPl (pol.mode fid) 0 (first.map .val ++ vs ++ captured.map .val) pl = ln.map (Lent.pl gh1) := by
                  show lentPl (pol.mode fid) 0 (first.map .val ++ vs ++ captured.map .val) ((first.map fun _ => (none : Option Place)) ++ hs.map (Hand.pl gh1) ++ captured.map fun _ => (none : Option Place)) = _
                  rw [lentPl_append _ _ _ _ _ (by simp [hvl, hl3]), lentPl_append _ _ _ _ _ (by simp), lentPl_plain, lentPl_plain, List.nil_append, List.append_nil, lentPl_hands gh1 vs hs _ (by omega) (fun i r h hr hh => ?_), k1]
                  have := k5 i r h hr hh
                  simpa using this
                have hl2 : ∀ d, d ∈ ln.map Lent.key → Lof pl (gh1.β d) := fun d hd => by
                  obtain ⟨l, hl, rfl⟩ := List.mem_map.1 hd
                  rw [← k1] at hl
                  obtain ⟨h, hh, hhl⟩ := List.mem_filterMap.1 hl
                  cases h with
                  | no => simp [Hand.ln] at hhl
                  | taken d o => simp [Hand.ln] at hhl
                  | lent l' =>
                    simp only [Hand.ln, Option.some.injEq] at hhl
                    subst hhl
                    obtain ⟨i, hi⟩ := List.getElem?_of_mem hh
                    have hil := (List.getElem?_eq_some_iff.1 hi).1
                    refine ⟨first.length + i, (l'.pl gh1).2.1, (l'.pl gh1).2.2, ?_⟩
                    show ((first.map fun _ => (none : Option Place)) ++ hs.map (Hand.pl gh1) ++ captured.map fun _ => (none : Option Place))[first.length + i]? = _
                    rw [List.getElem?_append_left (by simp; omega), List.getElem?_append_right (by simp)]
                    simp only [List.length_map, Nat.add_sub_cancel_left, List.getElem?_map, hi, Option.map_some, Hand.pl]
                    cases l' <;> rfl
                obtain ⟨⟨fn, f1, f2, f3⟩, hcalls⟩ := hcall.ok _ _ _ _ _ _ hres
                have hC := hcalls gh1 w vals pl henter
                have hblockK : ∀ b, Lof pl b → ∃ d, b = gh.β d ∧ (tget tab d).active = true ∧ gh1.G b = 0 ∧ ((∃ o, Hand.taken d o ∈ hs) ∨ ∃ l, Hand.lent l ∈ hs ∧ l.key = d) := fun b hb => by
                  obtain ⟨h, hh, o', s', hp⟩ := hlof b hb
                  obtain ⟨d, rfl, q1, q2, q3⟩ := keyact h b o' s' hh hp
                  refine ⟨d, by rw [hsame.2.1], q1, q2, ?_⟩
                  rcases q3 with ⟨o'', rfl⟩ | ⟨l, rfl, rfl⟩
                  · exact .inl ⟨o'', hh⟩
                  · exact .inr ⟨l, hh, rfl⟩
                have hLbase : ∀ b, Lof pl b → gh.G b = 0 ∧ gh1.G b = 0 ∧ (E.n0 ≤ b ∨ E.L b) ∧ ∀ o, H.objs o ≠ none → (gh.μ o).blk ≠ b := fun b hb => by
                  obtain ⟨d, rfl, q1, q2, _⟩ := hblockK b hb
                  have := K.goes.tG (gh.β d)
                  exact ⟨by omega, q2, M.own q1, fun o ho => (M.objApart d o q1 ho).symm⟩
                have hmain : ∀ e w', (∃ v gh', e = Ending.returned v ∧ Post (pol.mode fid) gh1 (if pol.pure fid then Hp.bare H.next else H) w (first.map .val ++ vs ++ captured.map .val) pl r back H' v gh' w') →
                    ∃ v, e = Ending.returned v ∧ Res E gh tab H w ⟨sv, tab3, if keepsHeap pol fid then H else H'⟩ v w' := by
                  have hkeep : (if keepsHeap pol fid then H else H') = if pol.pure fid then H else H' := by
                    unfold keepsHeap
                    cases hp9 : pol.pure fid with
                    | true => rfl
                    | false =>
                      cases he9 : (pol.ext fid).isSome with
                      | false => rfl
                      | true =>
                        rw [hp9] at hres
                        have := hcall.ext _ _ _ _ _ _ he9 hres
                        subst this; rfl
                  rw [hkeep]
                  rintro e w' ⟨v', gh', rfl, post⟩
                  refine ⟨v', rfl, ?_⟩
                  have hnx : pol.pure fid = true → H'.next = H.next := fun hpf => by
                    rw [hpf] at hpure
                    simpa using hpure
                  by_cases hbw : (pol.pure fid && r.all flatR && back.all flatR && keepsAll (pol.mode fid) first.length as) = true
                  · rw [if_pos hbw] at hback
                    simp only [Bool.and_eq_true, List.all_eq_true] at hbw
                    obtain ⟨⟨⟨b1, b2⟩, b3⟩, b4⟩ := hbw
                    have hnt := k7 b4
                    obtain ⟨gh3, T3, M3, S3⟩ := calls_back (borrow := true) (pure := pol.pure fid) M rfl ⟨hsame.1, hsame.2.1, hsame.2.2.1, hsame.2.2.2⟩ (.inr ⟨rfl, b1, b2, b3⟩) (fun b hb => ⟨(hLbase b hb).1, (hLbase b hb).2.2⟩)
                      (fun d hd hdl hb => by
                        obtain ⟨d', e1', q1, _, q3⟩ := hblockK _ hb
                        have : d' = d := Classical.byContradiction fun hne => M.apart d d' (fun e => hne e.symm) hd q1 e1'
                        subst this
                        rcases q3 with ⟨o', hh⟩ | ⟨l, hh, hl⟩
                        · have : d' ∈ hs.filterMap Hand.tk := List.mem_filterMap.2 ⟨_, hh, rfl⟩
                          rw [hnt] at this; simp at this
                        · exact hdl (List.mem_map.2 ⟨l, lnmem l hh, hl⟩))
                      (fun d hd => by have := hl2 d hd; rw [hsame.2.1] at this; exact this) hlpl post hnx hnd hback hrv
                    exact ⟨gh3, T3, M3, S3⟩
                  · rw [if_neg hbw] at hback
                    obtain ⟨gh3, T3, M3, S3⟩ := calls_back (borrow := false) (pure := pol.pure fid) K.mem rfl ⟨rfl, rfl, rfl, rfl⟩ (.inl ⟨rfl, rfl⟩) (fun b hb => by rw [hsame.1]; exact (hLbase b hb).2)
                      (fun d hd hdl hb => by
                        obtain ⟨d', e1', q1, _, q3⟩ := hblockK _ hb
                        rw [hsame.2.1] at e1'
                        have : d' = d := Classical.byContradiction fun hne => M.apart d d' (fun e => hne e.symm) (K.act hd) q1 e1'
                        subst this
                        rcases q3 with ⟨o', hh⟩ | ⟨l, hh, hl⟩
                        · rw [(tkmem d' o' hh).2.1] at hd; cases hd
                        · exact hdl (List.mem_map.2 ⟨l, lnmem l hh, hl⟩))
                      hl2 hlpl post hnx hnd hback hrv
                    exact ⟨gh3, K.goes.trans T3, M3, S3⟩
                intro next Q hn
                unfold Oper.wp
                have hrun : (execOp a.eval o).run P w = .ok (.enter fid vals.toArray) w := by
                  have hv : vals.toArray = l1.toArray ++ c.args.map a.eval ++ l2.toArray := by
                    apply Array.ext'
                    simp [vals]
                  rw [hex]
                  simp only [Sem.run_bind, Sem.run_pure, Result.andThen_ok, callFunc]
                  cases hb : fn.body with
                  | none => rw [hb] at f2; cases f2
                  | some _ =>
                    have f4 : ¬ fn.name = "runtime.NumGoroutine" := by simpa using f3
                    simp [f1, f4, hb, hv]
                rw [hrun, Oper.upon_enter]
                refine Calls.mono hC fun e w' he => ?_
                obtain ⟨v', rfl, hR⟩ := hmain e w' he
                exact hn v' w' hR
              · simp at h
            · simp at h
        · simp at h
    · simp at h
  · simp at h

theorem callsV_run {pol : Pol} {keys : Nat → List Nat} {call : CallV} (hcall : CallOk P pol call) (M : Mem E gh tab H w) {ρ : Operand → Option SV} {a : Act}
    (hρ : ∀ x s, ρ x = some s → SRel gh tab H.next w s (a.eval x)) {o : Oper} {c : Call} {f : Operand} {s : St} (ho : o.op = .call c) (hc : c.callee = .value f)
    (h : callsV pol keys call o.dst (ρ f) (c.args.toList.map ρ) tab H = some s) : StepsTo P o a w (Res E gh tab H w s) := by
  refine callsV_runG hcall M hρ (fun fid first captured hf => ?_) h
  have hfr := (hρ f _ hf).of_val
  generalize hvf : a.eval f = vf at hfr
  cases hfr with
  | func _ _ _ l1 l2 e1 e2 hr1 hr2 =>
    refine ⟨l1, l2, e1, e2, hr1, hr2, ?_⟩
    simp only [execOp, ho, resolve, hc, Sem.run_bind, hvf, Deferred.ofValue, Sem.run_pure, Result.andThen_ok, invoke]
theorem run_method {t : TypeId} {x : Value} {name : String} {f : FuncId} (h : methV P t name = some f) (n : Nat) : (method (n + 1) t x name).run P w = .ok (f, x) w := by
  unfold methV at h
  split at h
  · rename_i i e hi hu
    split at h
    · rename_i m hm
      split at h
      · rename_i hp
        split at h
        · rename_i f' hf
          simp only [Option.some.injEq] at h
          subst h
          have hp' : m.path.toList = [] := by simpa using hp
          have hinfo : (typeInfo t).run P w = .ok i w := by
            simp only [typeInfo, Sem.run_bind, run_program, Result.andThen_ok, hi, Sem.run_pure]
          simp [method, hinfo, hm, hp', follow, hf, receiverAt, run_underlying hu, Place.get, Result.andThen]
        · cases h
      · cases h
    · cases h
  · cases h
theorem invoke_run {pol : Pol} {keys : Nat → List Nat} {call : CallV} (hcall : CallOk P pol call) (M : Mem E gh tab H w) {ρ : Operand → Option SV} {a : Act}
    (hρ : ∀ x s, ρ x = some s → SRel gh tab H.next w s (a.eval x)) {o : Oper} {c : Call} {r : Operand} {name : String} {s : St} (ho : o.op = .call c) (hc : c.callee = .invoke r name)
    (h : callsV pol keys call o.dst (invokeF P (ρ r) name) (c.args.toList.map ρ) tab H = some s) : StepsTo P o a w (Res E gh tab H w s) := by
  refine callsV_runG hcall M hρ (fun fid first captured hf => ?_) h
  unfold invokeF at hf
  split at hf
  · rename_i t v hr
    rw [Option.map_eq_some_iff] at hf
    obtain ⟨f, hm, he⟩ := hf
    simp only [SV.val.injEq, VV.func.injEq] at he
    obtain ⟨rfl, rfl, rfl⟩ := he
    have hrv := (hρ _ _ hr).of_val
    generalize hvr : a.eval r = vr at hrv
    cases hrv with
    | iface _ _ x hx =>
    refine ⟨[x], [], rfl, rfl, fun i y z hy hz => ?_, fun i y z hy => by simp at hy, ?_⟩
    · cases i with
      | zero =>
        have hy' : v = y := by simpa using hy
        have hz' : x = z := by simpa using hz
        subst hy'; subst hz'; exact hx
      | succ i => simp at hy
    · have e1 : (#[Value.iface t x] ++ c.args.map a.eval)[0]? = some (.iface t x) := by rw [Array.getElem?_append_left (by simp)]; rfl
      have e2 : (#[Value.iface t x] ++ c.args.map a.eval).extract 1 (#[Value.iface t x] ++ c.args.map a.eval).size = c.args.map a.eval := by
        apply Array.ext'
        simp only [Array.toList_extract, Array.toList_append, List.cons_append, List.nil_append, List.extract_eq_take_drop, List.drop_succ_cons, List.drop_zero, Array.size_append, Array.size_map]
        rw [List.take_of_length_le (by simp)]
      simp only [execOp, ho, resolve, hc, hvr, Sem.run_bind, Sem.run_pure, Result.andThen_ok, invoke, e1, e2, callMethod, run_program]
      rw [show P.types.size + Made.depth = (P.types.size + Made.depth - 1) + 1 from rfl, run_method hm]
      simp [Result.andThen]
  · cases hf
end
end Go.Vi

/-
  Objects: new ones, written ones, rows that become objects.
-/
namespace Go.Vi
set_option linter.unusedVariables false
set_option linter.unusedSimpArgs false

section
variable {P : Program} {E : En} {gh : Gh} {tab : List TC} {H : Hp} {w : World}

/-- the block may be an object's of the call -/
def Mine (E : En) (b : Nat) : Prop := E.n0 ≤ b ∨ E.L b ∨ ∃ o, E.H0.objs o ≠ none ∧ (E.μ0 o).blk = b

theorem Mem.mine (M : Mem E gh tab H w) {o : Nat} (h : H.objs o ≠ none) : Mine E (gh.μ o).blk := by
  by_cases ho : o < E.H0.next
  · exact .inr (.inr ⟨o, M.live o ho h, by rw [← M.μ0 o ho]⟩)
  · exact M.newObj o (by omega) h

/-- a new object, in a block that nobody has -/
theorem Mem.putObj (M : Mem E gh tab H w) {obj : Obj} {m : Ob} {w' : World} (hw : ∀ b, b ≠ m.blk → w'.heap[b]? = w.heap[b]?) (hsz : w.heap.size ≤ w'.heap.size) (hst : Still w w')
    (hfree : ∀ d, (tget tab d).active = true → gh.β d ≠ m.blk) (hobj : ∀ o, H.objs o ≠ none → (gh.μ o).blk ≠ m.blk) (hnew : Mine E m.blk) (hG : gh.G m.blk = 0) (hlt : m.blk < w'.heap.size)
    (hat : (∀ x v, VR gh H.next w x v → VR { gh with μ := Vi.upd gh.μ H.next m } (H.next + 1) w' x v) → ObjAt { gh with μ := Vi.upd gh.μ H.next m } (H.next + 1) w' m obj) :
    Goes gh tab H.next w { gh with μ := Vi.upd gh.μ H.next m } tab (H.next + 1) w' ∧ Mem E { gh with μ := Vi.upd gh.μ H.next m } tab (H.put obj) w' := by
  have hμ : ∀ o, o < H.next → Vi.upd gh.μ H.next m o = gh.μ o := fun o ho => upd_ne _ _ _ (by omega)
  have T : Goes gh tab H.next w { gh with μ := Vi.upd gh.μ H.next m } tab (H.next + 1) w' :=
    ⟨Nat.le_succ _, hμ, fun _ => Nat.le_refl _, fun b o ho => cellAt_congr (hw b (fun e => by rw [e, hG] at ho; omega)) o, fun _ => Nat.le_refl _,
      fun d g es sz lk he _ => ⟨es, lk, he, rfl, rfl, rfl⟩, fun d g cs wr he _ => ⟨cs, wr, he, rfl⟩⟩
  have ne : ∀ o, (H.put obj).objs o ≠ none → o ≠ H.next → H.objs o ≠ none ∧ o < H.next := fun o ho hn => by
    have h1 : H.objs o ≠ none := by simpa [Hp.put, hn] using ho
    exact ⟨h1, (M.objLt o h1).1⟩
  refine ⟨T, ⟨fun e => ?_, M.apart, fun b hb => M.G0 b (by omega), fun o ob ho => ?_, fun o ho => ?_, fun o o' hne h1 h2 => ?_, fun d o hd ho => ?_, Nat.le_trans M.size hsz, fun b h1 h2 h3 => ?_, M.oldG, fun o ho => ?_,
    Nat.le_trans M.next (Nat.le_succ _), fun o ho hl => ?_, fun o ho hl => ?_, M.lent, M.still.trans hst⟩⟩
  · exact TabAt.keep T rfl rfl rfl (fun ha => hw _ (hfree e ha)) (fun _ => rfl) (M.tabR e)
  · by_cases hn : o = H.next
    · subst hn
      have : some obj = some ob := by simpa [Hp.put] using ho
      cases this
      show ObjAt _ _ _ (Vi.upd gh.μ H.next m H.next) obj
      rw [upd_same]
      exact hat fun x v h => T.v h
    · have h1 : H.objs o = some ob := by simpa [Hp.put, hn] using ho
      have h2 : H.objs o ≠ none := by simp [h1]
      show ObjAt _ _ _ (Vi.upd gh.μ H.next m o) ob
      rw [upd_ne _ _ _ hn]
      exact ObjAt.keep T (hw _ (hobj o h2)) (M.objAt o ob h1)
  · by_cases hn : o = H.next
    · subst hn
      refine ⟨Nat.lt_succ_self _, ?_, ?_⟩
      · show gh.G (Vi.upd gh.μ H.next m H.next).blk = 0; rw [upd_same]; exact hG
      · show (Vi.upd gh.μ H.next m H.next).blk < _; rw [upd_same]; exact hlt
    · obtain ⟨h1, h2⟩ := ne o ho hn
      obtain ⟨q1, q2, q3⟩ := M.objLt o h1
      refine ⟨by show o < H.next + 1; omega, ?_, ?_⟩
      · show gh.G (Vi.upd gh.μ H.next m o).blk = 0; rw [upd_ne _ _ _ hn]; exact q2
      · show (Vi.upd gh.μ H.next m o).blk < _; rw [upd_ne _ _ _ hn]; omega
  · show (Vi.upd gh.μ H.next m o).blk ≠ (Vi.upd gh.μ H.next m o').blk
    by_cases hn : o = H.next
    · by_cases hn' : o' = H.next
      · exact absurd (hn.trans hn'.symm) hne
      · rw [hn, upd_same, upd_ne _ _ _ hn']
        exact (hobj o' (ne o' h2 hn').1).symm
    · by_cases hn' : o' = H.next
      · rw [hn', upd_same, upd_ne _ _ _ hn]
        exact hobj o (ne o h1 hn).1
      · rw [upd_ne _ _ _ hn, upd_ne _ _ _ hn']
        exact M.objInj o o' hne (ne o h1 hn).1 (ne o' h2 hn').1
  · show gh.β d ≠ (Vi.upd gh.μ H.next m o).blk
    by_cases hn : o = H.next
    · rw [hn, upd_same]; exact hfree d hd
    · rw [upd_ne _ _ _ hn]; exact M.objApart d o hd (ne o ho hn).1
  · rw [hw b fun e => ?_]
    · exact M.old b h1 h2 h3
    · rcases hnew with h | h | ⟨o, h, h'⟩
      · omega
      · rw [← e] at h; exact h2 h
      · exact h3 o h (h'.trans e.symm)
  · show Vi.upd gh.μ H.next m o = E.μ0 o
    rw [hμ o (Nat.lt_of_lt_of_le ho M.next)]; exact M.μ0 o ho
  · have hn : o ≠ H.next := by have := M.next; omega
    exact M.live o ho (ne o hl hn).1
  · show _ ∨ _ ∨ _
    by_cases hn : o = H.next
    · rw [hn]
      show E.n0 ≤ (Vi.upd gh.μ H.next m H.next).blk ∨ E.L (Vi.upd gh.μ H.next m H.next).blk ∨ ∃ o', E.H0.objs o' ≠ none ∧ (E.μ0 o').blk = (Vi.upd gh.μ H.next m H.next).blk
      rw [upd_same]; exact hnew
    · show E.n0 ≤ (Vi.upd gh.μ H.next m o).blk ∨ E.L (Vi.upd gh.μ H.next m o).blk ∨ ∃ o', E.H0.objs o' ≠ none ∧ (E.μ0 o').blk = (Vi.upd gh.μ H.next m o).blk
      rw [upd_ne _ _ _ hn]
      exact M.newObj o ho (ne o hl hn).1

/-- an object's block is written -/
theorem Mem.setObj (M : Mem E gh tab H w) {o : Nat} {obj : Obj} {w' : World} (hlive : H.objs o ≠ none) (hw : ∀ b, b ≠ (gh.μ o).blk → w'.heap[b]? = w.heap[b]?) (hsz : w'.heap.size = w.heap.size) (hst : Still w w')
    (hat : (∀ x v, VR gh H.next w x v → VR gh H.next w' x v) → ObjAt gh H.next w' (gh.μ o) obj) :
    Goes gh tab H.next w gh tab H.next w' ∧ Mem E gh tab (H.set o (some obj)) w' := by
  obtain ⟨l1, l2, l3⟩ := M.objLt o hlive
  have T : Goes gh tab H.next w gh tab H.next w' :=
    { Goes.refl gh tab H.next w with cell := fun b k hk => cellAt_congr (hw b (fun e => by rw [e, l2] at hk; omega)) k }
  have ne : ∀ k, (H.set o (some obj)).objs k ≠ none → H.objs k ≠ none := fun k hk => by
    by_cases hn : k = o
    · rw [hn]; exact hlive
    · simpa [Hp.set, hn] using hk
  refine ⟨T, ⟨fun e => ?_, M.apart, fun b hb => M.G0 b (by omega), fun k ob ho => ?_, fun k ho => ?_, fun k k' hne h1 h2 => M.objInj k k' hne (ne k h1) (ne k' h2), fun d k hd ho => M.objApart d k hd (ne k ho),
    by rw [hsz]; exact M.size, fun b h1 h2 h3 => ?_, M.oldG, M.μ0, M.next, fun k ho hl => M.live k ho (ne k hl), fun k ho hl => M.newObj k ho (ne k hl), M.lent, M.still.trans hst⟩⟩
  · exact TabAt.keep T rfl rfl rfl (fun ha => hw _ (M.objApart e o ha hlive)) (fun _ => rfl) (M.tabR e)
  · by_cases hn : k = o
    · subst hn
      have : some obj = some ob := by simpa [Hp.set] using ho
      cases this
      exact hat fun x v h => T.v h
    · have h1 : H.objs k = some ob := by simpa [Hp.set, hn] using ho
      exact ObjAt.keep T (hw _ (M.objInj k o hn (by simp [h1]) hlive)) (M.objAt k ob h1)
  · obtain ⟨q1, q2, q3⟩ := M.objLt k (ne k ho)
    exact ⟨q1, q2, by rw [hsz]; exact q3⟩
  · rw [hw b fun e => ?_]
    · exact M.old b h1 h2 h3
    · rcases M.mine hlive with h | h | ⟨o', h, h'⟩
      · omega
      · rw [← e] at h; exact h2 h
      · exact h3 o' h (h'.trans e.symm)

/-- an object is no more -/
theorem Mem.dropObj (M : Mem E gh tab H w) (o : Nat) : Mem E gh tab (H.set o none) w := by
  have ne : ∀ k, (H.set o none).objs k ≠ none → H.objs k ≠ none ∧ k ≠ o := fun k hk => by
    by_cases hn : k = o
    · exfalso; apply hk; simp [Hp.set, hn]
    · exact ⟨by simpa [Hp.set, hn] using hk, hn⟩
  have eq : ∀ k ob, (H.set o none).objs k = some ob → H.objs k = some ob := fun k ob hk => by
    by_cases hn : k = o
    · simp [Hp.set, hn] at hk
    · simpa [Hp.set, hn] using hk
  exact ⟨M.tabR, M.apart, M.G0, fun k ob ho => M.objAt k ob (eq k ob ho), fun k ho => M.objLt k (ne k ho).1, fun k k' hne h1 h2 => M.objInj k k' hne (ne k h1).1 (ne k' h2).1, fun d k hd ho => M.objApart d k hd (ne k ho).1,
    M.size, M.old, M.oldG, M.μ0, M.next, fun k ho hl => M.live k ho (ne k hl).1, fun k ho hl => M.newObj k ho (ne k hl).1, M.lent, M.still⟩

/-- a new object in a new block -/
theorem Mem.freshObj (M : Mem E gh tab H w) {us : List VV} {c : Array Value} (ty : TypeId) (hc : VsRel gh.μ H.next gh.G w us c.toList) :
    ∃ gh', Goes gh tab H.next w gh' tab (H.next + 1) (w.alloc (.cells c ty)) ∧ Mem E gh' tab (H.put (.cells us)) (w.alloc (.cells c ty)) ∧
      VR gh' (H.next + 1) (w.alloc (.cells c ty)) (.ptr H.next 0) (.pointer (some ⟨w.heap.size, 0, none⟩)) := by
  obtain ⟨T, M'⟩ := M.putObj (obj := .cells us) (m := ⟨w.heap.size, 0, c.size⟩) (w' := w.alloc (.cells c ty)) (fun b hb => push_ne w _ hb) (by rw [push_size]; omega) ⟨rfl, rfl, rfl⟩
    (fun d hd => Nat.ne_of_lt (M.lt hd)) (fun o ho => Nat.ne_of_lt (M.objLt o ho).2.2) (.inl M.size) (M.G0 _ (Nat.le_refl _)) (by rw [push_size]; exact Nat.lt_succ_self _)
    (fun hV => ⟨c, ty, push_at w _, by have := hc.len; simpa using this, rfl, fun i x v hx hv => hV _ _ (hc.rel i x v hx (by simpa using hv))⟩)
  refine ⟨_, T, M', ?_⟩
  have h := VRel.ptr (μ := Vi.upd gh.μ H.next ⟨w.heap.size, 0, c.size⟩) (nx := H.next + 1) (G := gh.G) (w := w.alloc (.cells c ty)) H.next 0 (Nat.lt_succ_self _)
  rw [upd_same] at h
  exact h

theorem alloc_runH (M : Mem E gh tab H w) {ρ' : Operand → Value} {o : Oper} {e : TypeId} {z : VV} (ho : o.op = .alloc e) (hz : zeroT P e = some z) :
    Stepped P E gh tab H w ρ' o ⟨.val (.ptr H.next 0), tab, H.put (.cells z.cells)⟩ := by
  obtain ⟨v, hr, hv⟩ := zero_rel hz
  obtain ⟨gh', T, M', S⟩ := M.freshObj e (hv w gh H.next).cells
  refine ⟨gh', _, _, .inl ?_, T, M', .val _ _ S⟩
  simp only [execOp, ho, Instr.alloc, Sem.run_bind, hr, Result.andThen_ok, newVar, newRow, run_newObj, Sem.run_pure]
  rfl

/-- a cell goes to an object -/
theorem moveV_run (M : Mem E gh tab H w) {mv : Bool} {x : SV} {v : Value} {u : VV} {tab' : List TC} {H' : Hp} (h : SRel gh tab H.next w x v) (ho : moveV mv tab H x = some (u, tab', H')) :
    ∃ gh', Goes gh tab H.next w gh' tab' H'.next w ∧ Mem E gh' tab' H' w ∧ VR gh' H'.next w u v := by
  have plain : ∀ {z : SV}, SRel gh tab H.next w z v → (outT1 tab z).map (fun (u, t) => (u, t, H)) = some (u, tab', H') → ∃ gh', Goes gh tab H.next w gh' tab' H'.next w ∧ Mem E gh' tab' H' w ∧ VR gh' H'.next w u v := by
    intro z hz he
    rw [Option.map_eq_some_iff] at he
    obtain ⟨⟨u1, t1⟩, h1, h2⟩ := he
    simp only [Prod.mk.injEq] at h2
    obtain ⟨rfl, rfl, rfl⟩ := h2
    obtain ⟨gh', Mk, hv⟩ := outT1_run M hz h1
    exact ⟨gh', Mk.goes, Mk.mem, hv⟩
  unfold moveV at ho
  split at ho
  · rename_i d g off n s
    split at ho
    · split at ho
      · rename_i g' es sz hr
        split at ho
        · rename_i hc
          obtain ⟨rfl, rfl, hle⟩ := hc
          simp only [Option.some.injEq, Prod.mk.injEq] at ho
          obtain ⟨rfl, rfl, rfl⟩ := ho
          have hact : (tget tab d).active = true := by rw [hr]; rfl
          have hd := tget_lt hact
          have hT := M.tabR d
          rw [hr] at hT
          obtain ⟨c, ty, c1, c2, c3, c4, c5, hown, hlkG, c8, c9⟩ := hT
          obtain ⟨T1, M1⟩ := M.giveUp hd
          have hgen : (tget tab d).gen = g' := by rw [hr]; rfl
          rw [hgen] at T1 M1
          have act : ∀ e, (tget (tab.set d (.gone g')) e).active = true → e ≠ d ∧ (tget tab e).active = true := fun e he => by
            by_cases hed : e = d
            · subst hed; rw [tget_set_same hd] at he; simp [TC.active] at he
            · rw [tget_set_ne hed] at he; exact ⟨hed, he⟩
          obtain ⟨T2, M2⟩ := M1.putObj (obj := .row es s) (m := ⟨gh.β d, gh.bo d, gh.bs d⟩) (w' := w) (fun _ _ => rfl) (Nat.le_refl _) (Still.refl _)
            (fun e he => M.apart e d (act e he).1 (act e he).2 hact) (fun o ho => (M.objApart d o hact ho).symm) (by rcases hown with h | h; exact .inl h; exact .inr (.inl h)) (hlkG rfl) (M.lt hact)
            (fun hV => ⟨c, ty, c1, c2, c3, c9, c4, fun i e j x v a b c => hV _ _ (T1.v (c5 i e j x v a b c))⟩)
          refine ⟨_, T1.trans T2, M2, ?_⟩
          cases h with
          | own _ _ _ _ _ cap b o hg hn hh =>
            refine .row _ _ _ _ _ _ _ (Nat.lt_succ_self _) hn c9 ?_
            rcases hh es false hr with ⟨a1, a2, a3⟩ | a
            · refine .inl ?_
              show b = (Vi.upd gh.μ H.next _ H.next).blk ∧ o = (Vi.upd gh.μ H.next _ H.next).off + off * s ∧ (Vi.upd gh.μ H.next _ H.next).off + off * s + cap * s ≤ (Vi.upd gh.μ H.next _ H.next).size
              rw [upd_same]
              refine ⟨a1, a2, ?_⟩
              rw [Nat.add_mul] at a3
              show gh.bo d + off * s + cap * s ≤ gh.bs d
              omega
            · exact .inr a
        · simp at ho
      · simp at ho
    · exact plain h ho
  · exact plain h ho

theorem moveAll_run {mv : Bool} : ∀ {l : List SV} {gh : Gh} {tab : List TC} {H : Hp} {vs : List Value} {us : List VV} {tab' : List TC} {H' : Hp}, Mem E gh tab H w → SsRel gh tab H.next w l vs → moveAll mv tab H l = some (us, tab', H') →
    ∃ gh', Goes gh tab H.next w gh' tab' H'.next w ∧ Mem E gh' tab' H' w ∧ VsRel gh'.μ H'.next gh'.G w us vs
  | [], gh, tab, H, vs, us, tab', H', M, hs, h => by
    simp only [moveAll, Option.some.injEq, Prod.mk.injEq] at h
    obtain ⟨rfl, rfl, rfl⟩ := h
    exact ⟨gh, Goes.refl _ _ _ _, M, ⟨hs.len, fun i x v hx => by simp at hx⟩⟩
  | x :: l, gh, tab, H, vs, us, tab', H', M, hs, h => by
    cases vs with
    | nil => have := hs.len; simp at this
    | cons v vs =>
      simp only [moveAll] at h
      split at h
      · rename_i u t1 H1 h1
        split at h
        · rename_i us1 t2 H2 h2
          simp only [Option.some.injEq, Prod.mk.injEq] at h
          obtain ⟨rfl, rfl, rfl⟩ := h
          obtain ⟨gh1, T1, M1, r1⟩ := moveV_run M (hs.rel 0 x v rfl rfl) h1
          have hs1 : SsRel gh1 t1 H1.next w l vs := ⟨by have := hs.len; simpa using this, fun i x v hx hv => T1.s (hs.rel (i + 1) x v hx hv)⟩
          obtain ⟨gh2, T2, M2, r2⟩ := moveAll_run M1 hs1 h2
          refine ⟨gh2, T1.trans T2, M2, ⟨by simp [r2.len], fun i a b ha hb => ?_⟩⟩
          cases i with
          | zero =>
            simp only [List.getElem?_cons_zero, Option.some.injEq] at ha hb
            subst ha; subst hb
            exact T2.v r1
          | succ i => exact r2.rel i a b (by simpa using ha) (by simpa using hb)
        · simp at h
      · simp at h

theorem box_runH (M : Mem E gh tab H w) {ρ' : Operand → Value} {o : Oper} {e : TypeId} {x : Operand} {s : SV} {mv : Bool} {us : List VV} {tab' : List TC} {H' : Hp} (ho : o.op = .box e x)
    (hx : SRel gh tab H.next w s (ρ' x)) (h1 : (svCells s).all oneCell = true) (hm : moveAll mv tab H (svCells s) = some (us, tab', H')) :
    Stepped P E gh tab H w ρ' o ⟨.val (.ptr H'.next 0), tab', H'.put (.cells us)⟩ := by
  obtain ⟨hc, _⟩ := value_cells_of_svCells hx h1
  obtain ⟨gh1, T1, M1, r1⟩ := moveAll_run M hc hm
  obtain ⟨gh', T, M', S⟩ := M1.freshObj e r1
  refine ⟨gh', _, _, .inl ?_, T1.trans T, M', .val _ _ S⟩
  simp only [execOp, ho, Instr.box, Sem.run_bind, Result.andThen_ok, newVar, newRow, run_newObj, Sem.run_pure]
  rfl

theorem load_runH (M : Mem E gh tab H w) {ρ' : Operand → Value} {o : Oper} {t : TypeId} {x : Operand} {ob off : Nat} {u : VV} (ho : o.op = .load t x)
    (hx : SRel gh tab H.next w (.val (.ptr ob off)) (ρ' x)) (hl : loadH P t H ob off = some u) : Stepped P E gh tab H w ρ' o ⟨.val u, tab, H⟩ := by
  have hv := hx.of_val
  generalize hvx : ρ' x = v at hv
  cases hv with
  | ptr _ _ hlt =>
    unfold loadH at hl
    split at hl
    · rename_i cs hob
      obtain ⟨c, ty, h1, h2, h0, h3⟩ := M.objAt ob _ hob
      obtain ⟨r, e1, e2⟩ := load_run (P := P) (gh := gh) (nx := H.next) (w := w) (b := (gh.μ ob).blk) (o := 0) (fun j => c.getD j undef)
        (fun j y hj => by
          rw [Nat.zero_add, cellAt_of h1]
          have hjl : j < c.size := by have := (List.getElem?_eq_some_iff.1 hj).1; omega
          have hc : c[j]? = some (c.getD j undef) := by simp [hjl]
          exact ⟨hc, h3 j y _ hj hc⟩) hl
      refine ⟨gh, r, w, .inl ?_, Goes.refl _ _ _ _, M, .val _ _ e2⟩
      simp only [execOp, ho, hvx, h0, Instr.loadAt, Instr.sureAddr, Sem.run_bind, Sem.run_pure, Result.andThen_ok, e1]
    · rename_i es sz hob
      split at hl
      · rename_i e he
        obtain ⟨c, ty, h1, h2, h3, h4, h5, h6⟩ := M.objAt ob _ hob
        have hil := (List.getElem?_eq_some_iff.1 he).1
        have hle : (off / sz + 1) * sz ≤ es.length * sz := Nat.mul_le_mul_right _ hil
        rw [Nat.add_mul, Nat.one_mul] at hle
        obtain ⟨r, e1, e2⟩ := load_run (P := P) (gh := gh) (nx := H.next) (w := w) (b := (gh.μ ob).blk) (o := (gh.μ ob).off + off / sz * sz) (fun j => c.getD ((gh.μ ob).off + off / sz * sz + j) undef)
          (fun j y hj => by
            rw [cellAt_of h1]
            have hjl : j < sz := by have := (List.getElem?_eq_some_iff.1 hj).1; rw [h5 _ e he] at this; exact this
            have hlt : (gh.μ ob).off + off / sz * sz + j < c.size := by omega
            have hc : c[(gh.μ ob).off + off / sz * sz + j]? = some (c.getD ((gh.μ ob).off + off / sz * sz + j) undef) := by simp [hlt]
            exact ⟨hc, h6 _ e j y _ he hj hc⟩) hl
        have hoff : (gh.μ ob).off + off / sz * sz + off % sz = (gh.μ ob).off + off := by
          have := Nat.div_add_mod off sz
          rw [Nat.mul_comm] at this; omega
        rw [hoff] at e1
        refine ⟨gh, r, w, .inl ?_, Goes.refl _ _ _ _, M, .val _ _ e2⟩
        simp only [execOp, ho, hvx, Instr.loadAt, Instr.sureAddr, Sem.run_bind, Sem.run_pure, Result.andThen_ok, e1]
      · simp at hl
    · simp at hl
end
end Go.Vi

/-
  Stores into objects; appends to objects' rows.
-/
namespace Go.Vi
set_option linter.unusedVariables false
set_option linter.unusedSimpArgs false

section
variable {P : Program} {E : En} {gh : Gh} {tab : List TC} {H : Hp} {w : World}

theorem store_runH (M : Mem E gh tab H w) {ρ' : Operand → Value} {o : Oper} {t : TypeId} {x y : Operand} {ob off : Nat} {v : SV} {mv : Bool} {us : List VV} {tab' : List TC} {H1 H2 : Hp} (ho : o.op = .store t x y)
    (hx : SRel gh tab H.next w (.val (.ptr ob off)) (ρ' x)) (hy : SRel gh tab H.next w v (ρ' y)) (h1 : (svCells v).all oneCell = true) (hm : moveAll mv tab H (svCells v) = some (us, tab', H1))
    (hs : storeH P t H1 ob off us = some H2) : Stepped P E gh tab H w ρ' o ⟨.val .undef, tab', H2⟩ := by
  obtain ⟨hc, hone⟩ := value_cells_of_svCells hy h1
  obtain ⟨gh1, T1, M1, r1⟩ := moveAll_run M hc hm
  have hul : (ρ' y).cells.size = us.length := by simpa using r1.len
  have hv := hx.of_val
  generalize hvx : ρ' x = p at hv
  cases hv with
  | ptr _ _ hlt =>
    have hμ := T1.tμ ob hlt
    unfold storeH at hs
    split at hs
    · rename_i hcond
      obtain ⟨hsz, _⟩ := hcond
      split at hs
      · rename_i cs hob
        split at hs
        · rename_i hle
          simp only [Option.some.injEq] at hs
          subst hs
          have hlive : H1.objs ob ≠ none := by simp [hob]
          obtain ⟨c, ty, c1, c2, c0, c3⟩ := M1.objAt ob _ hob
          have hrun := storeVar_run (P := P) (t := t) (b := (gh1.μ ob).blk) (o := off) (v := ρ' y) (by rw [hul]; exact hsz) c1 (by omega) hone
          have hb := setRow_heap w (gh1.μ ob).blk c (putCells c.toList off (ρ' y).cells.toList).toArray ty (0, 0) c1
          obtain ⟨T, M'⟩ := M1.setObj (o := ob) (obj := .cells (putCells cs off us)) (w' := w.setRow (gh1.μ ob).blk (putCells c.toList off (ρ' y).cells.toList).toArray) hlive (fun b hb => setRow_other w _ _ _ hb) (by simp) ⟨rfl, rfl, rfl⟩
            (fun hV => by
              refine ⟨_, ty, hb, by simp [putCells_len, c2], c0, fun i a u ha hu => ?_⟩
              have hu' : (putCells c.toList off (ρ' y).cells.toList)[i]? = some u := by simpa using hu
              rw [putCells_get _ _ _ _ (by simp; omega)] at hu'
              rw [putCells_get _ _ _ _ hle] at ha
              by_cases hin : off ≤ i ∧ i < off + us.length
              · rw [if_pos hin] at ha
                rw [if_pos (by simp; omega)] at hu'
                exact hV _ _ (r1.rel _ a u ha hu')
              · rw [if_neg hin] at ha
                rw [if_neg (by simp; omega)] at hu'
                exact hV _ _ (c3 i a u ha (by simpa using hu')))
          refine ⟨gh1, undef, _, .inr ⟨?_, rfl⟩, T1.trans T, M', .val _ _ .undef⟩
          simp only [execOp, ho, hvx, Instr.storeAt, Instr.sureAddr, Sem.run_bind, Sem.run_pure, Result.andThen_ok, ← hμ, c0, Nat.zero_add, hrun]
        · simp at hs
      · rename_i es sz hob
        split at hs
        · simp at hs
        · rename_i hne
          split at hs
          · rename_i e he
            split at hs
            · rename_i e' hse
              simp only [Option.some.injEq] at hs
              subst hs
              have hlive : H1.objs ob ≠ none := by simp [hob]
              have hne' : us ≠ [] := by simpa using hne
              obtain ⟨c, ty, c1, c2, c3, c7, c4, c5⟩ := M1.objAt ob _ hob
              have hil : off / sz < es.length := (List.getElem?_eq_some_iff.1 he).1
              obtain ⟨s1, s2⟩ := setElem_some hse hne'
              have hel := c4 _ e he
              have hle : (off / sz + 1) * sz ≤ es.length * sz := Nat.mul_le_mul_right _ hil
              rw [Nat.add_mul, Nat.one_mul] at hle
              have hoff : off / sz * sz + off % sz = off := by have := Nat.div_add_mod off sz; rw [Nat.mul_comm] at this; exact this
              have hrun := storeVar_run (P := P) (t := t) (b := (gh1.μ ob).blk) (o := (gh1.μ ob).off + off) (v := ρ' y) (by rw [hul]; exact hsz) c1 (by omega) hone
              have hb := setRow_heap w (gh1.μ ob).blk c (putCells c.toList ((gh1.μ ob).off + off) (ρ' y).cells.toList).toArray ty (0, 0) c1
              obtain ⟨T, M'⟩ := M1.setObj (o := ob) (obj := .row (es.set (off / sz) e') sz) (w' := w.setRow (gh1.μ ob).blk (putCells c.toList ((gh1.μ ob).off + off) (ρ' y).cells.toList).toArray) hlive (fun b hb => setRow_other w _ _ _ hb) (by simp) ⟨rfl, rfl, rfl⟩
                (fun hV => by
                  refine ⟨_, ty, hb, by simp [putCells_len, c2], by simp [putCells_len]; omega, c7, fun k a hk => ?_, fun k a j z f hk hj hf => ?_⟩
                  · rw [List.getElem?_set] at hk
                    split at hk
                    · rename_i hik
                      subst hik
                      simp [hil] at hk; subst hk
                      rw [s1, putCells_len]; exact hel
                    · exact c4 k a hk
                  · have hlt2 : (gh1.μ ob).off + off + (ρ' y).cells.toList.length ≤ c.toList.length := by simp; omega
                    have hf' : (putCells c.toList ((gh1.μ ob).off + off) (ρ' y).cells.toList)[(gh1.μ ob).off + k * sz + j]? = some f := by simpa using hf
                    rw [putCells_get _ _ _ _ hlt2] at hf'
                    rw [List.getElem?_set] at hk
                    split at hk
                    · rename_i hik
                      subst hik
                      simp [hil] at hk; subst hk
                      rw [s1, putCells_get _ _ _ _ s2] at hj
                      by_cases hb' : off % sz ≤ j ∧ j < off % sz + us.length
                      · rw [if_pos hb'] at hj
                        rw [if_pos (by simp; omega)] at hf'
                        have : (gh1.μ ob).off + off / sz * sz + j - ((gh1.μ ob).off + off) = j - off % sz := by omega
                        rw [this] at hf'
                        exact hV _ _ (r1.rel _ z f hj hf')
                      · rw [if_neg hb'] at hj
                        rw [if_neg (by simp; omega)] at hf'
                        exact hV _ _ (c5 _ e j z f he hj (by simpa using hf'))
                    · rename_i hik
                      have hal := c4 k a hk
                      have hjl : j < sz := by have := (List.getElem?_eq_some_iff.1 hj).1; omega
                      rw [if_neg] at hf'
                      · exact hV _ _ (c5 k a j z f hk hj (by simpa using hf'))
                      · rintro ⟨q1, q2⟩
                        simp at q2
                        have : k * sz + j = off / sz * sz + (k * sz + j - off / sz * sz) := by omega
                        have := mul_add_inj hjl (by omega) this
                        exact hik this.1.symm)
              refine ⟨gh1, undef, _, .inr ⟨?_, rfl⟩, T1.trans T, M', .val _ _ .undef⟩
              simp only [execOp, ho, hvx, Instr.storeAt, Instr.sureAddr, Sem.run_bind, Sem.run_pure, Result.andThen_ok, ← hμ, hrun]
            · simp at hs
          · simp at hs
      · simp at hs
    · simp at hs

theorem appendH_run (M : Mem E gh tab H w) {ρ : Operand → Option SV} {ρ' : Operand → Value} (hρ : ∀ x s, ρ x = some s → SRel gh tab H.next w s (ρ' x)) {o : Oper} {c : Call} {x y : Operand} {t : TypeId} {s : St} {ob off n s0 : Nat}
    (ho : o.op = .call c) (hc : c.callee = .builtin .append) (ha : c.args.toList = [x, y]) (ht : c.argTypes.toList = [t, t]) (hx : ρ x = some (.val (.row ob off n s0))) (h : appendH P t ob off n s0 (ρ y) tab H = some s) :
    Stepped P E gh tab H w ρ' o s := by
  have hrun : ∀ r w', (Builtin.append_ #[t, t] o.type #[ρ' x, ρ' y]).run P w = .ok r w' → (execOp ρ' o).run P w = .ok (.value r) w' := by
    intro r w' hr
    rw [builtin_run ho hc, arr2 ha, arr2 ht]
    simp only [builtin, List.map_toArray, List.map_cons, List.map_nil, Sem.run_bind]
    rw [hr]
    rfl
  unfold appendH at h
  split at h
  · rename_i sy e hy he
    split at h
    · rename_i sz i new hs hi hadd
      have hu := elemOf_some he
      split at h
      · rename_i hc0
        obtain ⟨hok, hzo⟩ := hc0
        split at h
        · rename_i es sz' hob
          split at h
          · rename_i hcond
            obtain ⟨rfl, rfl, hdv, hle, hroom⟩ := hcond
            obtain ⟨cb, ct, c1, c2, c3, hsz, c4, c5⟩ := M.objAt ob _ hob
            have hlive : H.objs ob ≠ none := by simp [hob]
            have hsrc := addedH_src M (hρ y _ hy) hadd hok hsz
            have hxr := (hρ x _ hx).of_val
            generalize hvx : ρ' x = vx at hxr hrun
            cases hxr with
            | row _ _ _ _ cap b' o' hlt hn hp hh =>
              split at h
              · rename_i hne
                simp only [Option.some.injEq] at h; subst h
                have hne' : new = [] := by simpa using hne
                have hres : VR gh H.next w (.row ob off n s0) (.slice (some ⟨b', o', none⟩) n cap) := .row _ _ _ _ _ _ _ hlt hn hp hh
                rcases hsrc with ⟨_, ad, c', hsy⟩ | ⟨b, o2, cap2, news, hsy, _⟩
                · rw [hsy] at hrun
                  exact ⟨gh, _, w, .inl (hrun _ _ (app_none hu hs hn)), Goes.refl _ _ _ _, M, .val _ _ hres⟩
                · rw [hsy, hne'] at hrun
                  exact ⟨gh, _, w, .inl (hrun _ _ (app_none hu hs hn)), Goes.refl _ _ _ _, M, .val _ _ hres⟩
              · rename_i hne
                simp only [Option.some.injEq] at h; subst h
                have hpos : 0 < new.length := by
                  cases new with
                  | nil => simp at hne
                  | cons a r => simp
                rcases hsrc with ⟨h0, _⟩ | ⟨bx, ox, cp, news, hsy, hsrc⟩
                · rw [h0] at hpos; simp at hpos
                · rw [hsy] at hrun
                  have hone := okElem_one hsrc.row hok hsz
                  have hlen : ((es.drop (off / s0)).take n).length = n := by simp; omega
                  obtain ⟨l1, l2, l3⟩ := M.objLt ob hlive
                  have M1 := M.dropObj ob
                  have hne2 : ∀ k, (H.set ob none).objs k ≠ none → H.objs k ≠ none ∧ k ≠ ob := fun k hk => by
                    by_cases hkn : k = ob
                    · exfalso; apply hk; simp [Hp.set, hkn]
                    · exact ⟨by simpa [Hp.set, hkn] using hk, hkn⟩
                  -- it moves
                  have moves : ∀ olds, RowRel gh H.next w ((es.drop (off / s0)).take n) s0 olds → (∀ (j : Nat) (u : Value), olds[j]? = some u → w.cell? ((⟨b', o', none⟩ : Addr).add j) = some u) → cap < n + new.length →
                      Stepped P E gh tab H w ρ' o ⟨.val (.row H.next 0 (n + new.length) s0), tab, (H.set ob none).put (.row ((es.drop (off / s0)).take n ++ new) s0)⟩ := by
                    intro olds hold hoat hgr
                    obtain ⟨cap', cn, q1, q2, q3, q4, q5⟩ := app_grow_run (P := P) (ty := o.type) hu hs hi hzo hsz hlen rfl hold hoat hsrc hgr hroom (.inl rfl) (c' := cp)
                    obtain ⟨T0, M0⟩ := M1.heap (w' := w.drew) rfl ⟨rfl, rfl, rfl⟩
                    have hls : (((es.drop (off / s0)).take n) ++ new).length = n + new.length := by rw [List.length_append, hlen]
                    have hmul : (n + new.length) * s0 ≤ cap' * s0 := Nat.mul_le_mul_right _ q1
                    obtain ⟨T2, M2⟩ := M0.putObj (obj := .row ((es.drop (off / s0)).take n ++ new) s0) (m := ⟨w.heap.size, 0, cn.size⟩) (w' := w.drew.alloc (.cells cn e)) (fun b hb => push_ne w.drew _ hb)
                      (by rw [push_size]; omega) ⟨rfl, rfl, rfl⟩ (fun d hd => Nat.ne_of_lt (M.lt hd)) (fun k hk => Nat.ne_of_lt (M.objLt k (hne2 k hk).1).2.2) (.inl M.size) (M.G0 _ (Nat.le_refl _)) (by rw [push_size]; exact Nat.lt_succ_self _)
                      (fun hV => ⟨cn, e, push_at w.drew _, rfl, by dsimp only; rw [hls, q2]; omega, hsz, q3.size, fun i a j z f hia hjz hf => by
                        have hjl : j < s0 := by have := (List.getElem?_eq_some_iff.1 hjz).1; rw [q3.size i a hia] at this; exact this
                        have hil := (List.getElem?_eq_some_iff.1 hia).1
                        have hle2 : (i + 1) * s0 ≤ ((es.drop (off / s0)).take n ++ new).length * s0 := Nat.mul_le_mul_right _ hil
                        rw [Nat.add_mul, Nat.one_mul] at hle2
                        have hf2 : cn[i * s0 + j]? = some f := by
                          have e9 : 0 + i * s0 + j = i * s0 + j := by omega
                          rw [← e9]; exact hf
                        rw [q4 _ (by rw [q3.len]; omega)] at hf2
                        exact hV _ _ (T0.v (q3.rel i a j z f hia hjz hf2))⟩)
                    refine ⟨_, _, _, .inl (hrun _ _ q5), T0.trans T2, M2, .val _ _ (.row _ _ _ _ _ _ _ (Nat.lt_succ_self _) q1 hp (.inl ?_))⟩
                    show w.heap.size = (Vi.upd gh.μ H.next _ H.next).blk ∧ 0 = (Vi.upd gh.μ H.next _ H.next).off + 0 ∧ (Vi.upd gh.μ H.next _ H.next).off + 0 + cap' * s0 ≤ (Vi.upd gh.μ H.next _ H.next).size
                    rw [upd_same]
                    exact ⟨rfl, rfl, by show 0 + 0 + cap' * s0 ≤ cn.size; rw [q2]; omega⟩
                  rcases hh with ⟨rfl, rfl, hcapb⟩ | ⟨h0, hc0⟩
                  · by_cases hfit : n + new.length ≤ cap
                    · have hnl : news.length = new.length * s0 := by rw [hsrc.row.len]
                      have hmul2 : (n + new.length) * s0 ≤ cap * s0 := Nat.mul_le_mul_right _ hfit
                      rw [Nat.add_mul] at hmul2
                      have hoff : off / s0 * s0 = off := by have := Nat.div_add_mod off s0; rw [Nat.mul_comm] at this; omega
                      have hrm := app_room (P := P) (w := w) (t := t) (e := e) (ty := o.type) (sz := s0) (b := (gh.μ ob).blk) (o := (gh.μ ob).off + off) (n := n) (cap := cap) (b' := bx) (o' := ox) (m := new.length) (c' := cp) (news := news)
                        hu hs hfit hnl hsrc.at_ hone c1 (by rw [hnl, c2]; omega)
                      have hfit2 : (gh.μ ob).off + off + n * s0 + news.length ≤ cb.toList.length := by simp; rw [hnl, c2]; omega
                      have hb := setRow_heap w (gh.μ ob).blk cb (putCells cb.toList ((gh.μ ob).off + off + n * s0) news).toArray ct (0, 0) c1
                      obtain ⟨T2, M2⟩ := M1.putObj (obj := .row ((es.drop (off / s0)).take n ++ new) s0) (m := ⟨(gh.μ ob).blk, (gh.μ ob).off + off, (gh.μ ob).size⟩)
                        (w' := w.setRow (gh.μ ob).blk (putCells cb.toList ((gh.μ ob).off + off + n * s0) news).toArray) (fun b hb => setRow_other w _ _ _ hb) (by simp) ⟨rfl, rfl, rfl⟩
                        (fun d hd => M.objApart d ob hd hlive) (fun k hk => M.objInj k ob (hne2 k hk).2 (hne2 k hk).1 hlive) (M.mine hlive) l2 (by simpa using l3)
                        (fun hV => by
                          refine ⟨_, ct, hb, by simp [putCells_len, c2], ?_, hsz, fun i a hi => ?_, fun i a j z f hi hj hf => ?_⟩
                          · rw [List.length_append, hlen, Nat.add_mul]
                            simp [putCells_len]
                            rw [c2]; omega
                          · rw [List.getElem?_append] at hi
                            split at hi
                            · exact c4 _ a (sub_get hi)
                            · exact hsrc.row.size _ a hi
                          · have hf' : (putCells cb.toList ((gh.μ ob).off + off + n * s0) news)[(gh.μ ob).off + off + i * s0 + j]? = some f := by simpa using hf
                            rw [putCells_get _ _ _ _ hfit2] at hf'
                            rw [List.getElem?_append] at hi
                            split at hi
                            · rename_i hin
                              rw [hlen] at hin
                              have hi' := sub_get hi
                              have hjl : j < s0 := by have := (List.getElem?_eq_some_iff.1 hj).1; rw [c4 _ a hi'] at this; exact this
                              have hle2 : (i + 1) * s0 ≤ n * s0 := Nat.mul_le_mul_right _ hin
                              rw [Nat.add_mul, Nat.one_mul] at hle2
                              rw [if_neg (by omega)] at hf'
                              refine hV _ _ (c5 _ a j z f hi' hj ?_)
                              have e9 : (gh.μ ob).off + (off / s0 + i) * s0 + j = (gh.μ ob).off + off + i * s0 + j := by rw [Nat.add_mul, hoff]; omega
                              rw [e9]; simpa using hf'
                            · rename_i hin
                              rw [hlen] at hin hi
                              have hal := hsrc.row.size _ a hi
                              have hjl : j < s0 := by have := (List.getElem?_eq_some_iff.1 hj).1; rw [hal] at this; exact this
                              have hil := (List.getElem?_eq_some_iff.1 hi).1
                              have e1 : i * s0 = n * s0 + (i - n) * s0 := by rw [← Nat.add_mul]; congr 1; omega
                              have hle2 : (i - n + 1) * s0 ≤ new.length * s0 := Nat.mul_le_mul_right _ (by omega)
                              rw [Nat.add_mul, Nat.one_mul] at hle2
                              rw [if_pos (by omega)] at hf'
                              have e2 : (gh.μ ob).off + off + i * s0 + j - ((gh.μ ob).off + off + n * s0) = (i - n) * s0 + j := by omega
                              rw [e2] at hf'
                              exact hV _ _ (hsrc.row.rel _ a j z f hi hj hf'))
                      refine ⟨_, _, _, .inl (hrun _ _ hrm), T2, M2, .val _ _ (.row _ _ _ _ _ _ _ (Nat.lt_succ_self _) hfit hp (.inl ?_))⟩
                      show (gh.μ ob).blk = (Vi.upd gh.μ H.next _ H.next).blk ∧ (gh.μ ob).off + off = (Vi.upd gh.μ H.next _ H.next).off + 0 ∧ (Vi.upd gh.μ H.next _ H.next).off + 0 + cap * s0 ≤ (Vi.upd gh.μ H.next _ H.next).size
                      rw [upd_same]
                      exact ⟨rfl, rfl, by show (gh.μ ob).off + off + 0 + cap * s0 ≤ _; omega⟩
                    · obtain ⟨olds, hold⟩ := objRow_src M hob hdv hle
                      exact moves olds hold.row (fun j u hj => by rw [Addr.add_lit]; exact hold.at_ j u hj) (by omega)
                  · subst h0; subst hc0
                    have hnil : (es.drop (off / s0)).take 0 = [] := rfl
                    exact moves [] ⟨by simp, by simp, by simp⟩ (by simp) (by omega)
          · simp at h
        · simp at h
      · simp at h
    · simp at h
  · simp at h
end
end Go.Vi

/-
  Maps: looked up, made, written; what an interface value holds.
-/
namespace Go.Vi
set_option linter.unusedVariables false
set_option linter.unusedSimpArgs false
open Go.MapKept (IsKey run_setObj_map run_checkKey run_findKey run_keyThatStays heap_set)

section
variable {P : Program} {E : En} {gh : Gh} {tab : List TC} {H : Hp} {w : World}

theorem keyOk_is {d : TypeDesc} {k : VV} {kv : Value} {nx : Nat} (hk : VR gh nx w k kv) (h : keyOk d k = true) : IsKey d kv := by
  cases hk <;> cases d <;> simp_all [keyOk, IsKey]
theorem keySame_is {d : TypeDesc} {k k' : VV} {kv kv' : Value} {nx : Nat} (hk : VR gh nx w k kv) (hk' : VR gh nx w k' kv') (h : keyOk d k = true) (h' : keyOk d k' = true) :
    Instr.sameNow d kv kv' = some (keySame k k') ∧ (keySame k k' = true → kv' = kv) := by
  cases hk <;> cases d <;> simp only [keyOk, Bool.false_eq_true] at h <;> cases hk' <;> simp only [keyOk, Bool.false_eq_true] at h' <;> simp_all [keySame, Instr.sameNow, MapKept.bytes_beq]

/-- entries that tell the same -/
def EntsRel (gh : Gh) (nx : Nat) (w : World) (es : List (VV × VV × Nat)) (l : List MapEntry) : Prop :=
  l.length = es.length ∧ ∀ (j : Nat) (e : VV × VV × Nat) (ev : MapEntry), es[j]? = some e → l[j]? = some ev → VR gh nx w e.1 ev.key ∧ VR gh nx w e.2.1 ev.val ∧ ev.born = e.2.2

theorem findV_run {d : TypeDesc} {k : VV} {kv : Value} {nx : Nat} (hk : VR gh nx w k kv) (hok : keyOk d k = true) : ∀ {es : List (VV × VV × Nat)} {l : List MapEntry} {i : Nat} {r : Option (Nat × VV)}, EntsRel gh nx w es l → findV d k es i = some r →
    (r = none ∧ Instr.findNow d kv l i = some none) ∨ ∃ m e ev, r = some (i + m, e.2.1) ∧ es[m]? = some e ∧ l[m]? = some ev ∧ ev.key = kv ∧ Instr.findNow d kv l i = some (some (i + m, ev.val))
  | [], l, i, r, R, h => by
    have : l = [] := List.length_eq_zero_iff.1 R.1
    subst this
    simp only [findV, Option.some.injEq] at h
    exact .inl ⟨h.symm, rfl⟩
  | e :: es, [], i, r, R, h => by have := R.1; simp at this
  | e :: es, ev :: l, i, r, R, h => by
    simp only [findV] at h
    split at h
    · rename_i hok'
      obtain ⟨r1, r2, r3⟩ := R.2 0 e ev rfl rfl
      obtain ⟨s1, s2⟩ := keySame_is hk r1 hok hok'
      split at h
      · rename_i hs
        simp only [Option.some.injEq] at h
        exact .inr ⟨0, e, ev, h.symm, rfl, rfl, s2 hs, by simp [Instr.findNow, s1, hs]⟩
      · rename_i hs
        have hs' : keySame k e.1 = false := by simpa using hs
        have R' : EntsRel gh nx w es l := ⟨by have := R.1; simpa using this, fun j a b ha hb => R.2 (j + 1) a b ha hb⟩
        rcases findV_run hk hok R' h with ⟨q1, q2⟩ | ⟨m, a, b, q1, q2, q3, q4, q5⟩
        · exact .inl ⟨q1, by simp [Instr.findNow, s1, hs', q2]⟩
        · refine .inr ⟨m + 1, a, b, by rw [q1]; congr 2; omega, q2, q3, q4, ?_⟩
          simp [Instr.findNow, s1, hs', q5]; omega
    · simp at h

theorem mapDesc_some {t : TypeId} {d : TypeDesc} {e : TypeId} (h : mapDesc P t = some (d, e)) : ∃ kt, P.underlying t = some (.map kt e) ∧ P.underlying kt = some d := by
  unfold mapDesc at h
  split at h
  · rename_i kt e' hu
    rw [Option.map_eq_some_iff] at h
    obtain ⟨d', h1, h2⟩ := h
    cases h2
    exact ⟨kt, hu, h1⟩
  · cases h

/-- a map's block -/
theorem Mem.mapAt (M : Mem E gh tab H w) {o : Nat} {es : List (VV × VV × Nat)} {cl : Nat} (h : H.objs o = some (.map es cl)) : ∃ ents : Array MapEntry, w.heap[(gh.μ o).blk]? = some (.map ents cl) ∧ EntsRel gh H.next w es ents.toList := by
  obtain ⟨ents, h1, h2, h3⟩ := M.objAt o _ h
  exact ⟨ents, h1, by simpa using h2, fun j e ev he hev => by
    obtain ⟨a, b, c⟩ := e
    exact h3 j a b c ev he (by simpa using hev)⟩

theorem okPair_rel {ok : Bool} {v : VV} {x : Value} {b : Bool} {nx : Nat} (h : VR gh nx w v x) : SRel gh tab nx w (okPair ok v b) (if ok then .tuple #[x, .bool b] else x) := by
  cases ok with
  | false => exact .val _ _ h
  | true =>
    refine .tup [.val v, .val (.bool b)] [x, .bool b] rfl fun i y u hy hu => ?_
    match i with
    | 0 => simp only [List.getElem?_cons_zero, Option.some.injEq] at hy hu; subst hy; subst hu; exact .val _ _ h
    | 1 => simp only [List.getElem?_cons_succ, List.getElem?_cons_zero, Option.some.injEq] at hy hu; subst hy; subst hu; exact .val _ _ (.bool _)
    | i + 2 => simp at hy

theorem lookup_run (M : Mem E gh tab H w) {ρ : Operand → Option SV} {ρ' : Operand → Value} (hρ : ∀ x s, ρ x = some s → SRel gh tab H.next w s (ρ' x)) {o : Oper} {t : TypeId} {x i : Operand} {ok : Bool} {r : SV} (ho : o.op = .lookup t x i ok)
    (h : lookupV P t (ρ x) (ρ i) ok H = some r) : Stepped P E gh tab H w ρ' o ⟨r, tab, H⟩ := by
  unfold lookupV at h
  split at h
  · rename_i d e k hd hi
    obtain ⟨kt, ht, hkt⟩ := mapDesc_some hd
    have hkv := (hρ _ _ hi).of_val
    split at h
    · rename_i hok
      have hkey := keyOk_is hkv hok
      have fin : ∀ u b, (∃ es : Array MapEntry, True) → (Instr.lookup t (ρ' x) (ρ' i) ok).run P w = .ok (if ok then .tuple #[u, .bool b] else u) w → ∀ v, VR gh H.next w v u → Stepped P E gh tab H w ρ' o ⟨okPair ok v b, tab, H⟩ := fun u b _ hr v hv => by
        refine ⟨gh, _, w, .inl ?_, Goes.refl _ _ _ _, M, okPair_rel hv⟩
        simp only [execOp, ho, Sem.run_bind, hr, Result.andThen_ok, Sem.run_pure]
      split at h
      · rename_i hx
        rw [Option.map_eq_some_iff] at h
        obtain ⟨z, hz, rfl⟩ := h
        obtain ⟨zv, z1, z2⟩ := zero_rel hz
        have hxv := (hρ _ _ hx).of_val
        generalize hvx : ρ' x = vx at hxv fin
        cases hxv with
        | mapn =>
          refine fin zv false ⟨#[], trivial⟩ ?_ z (z2 w gh _)
          simp only [Instr.lookup, Sem.run_bind, run_underlying ht, Result.andThen_ok, Sem.run_pure, run_checkKey hkt hkey, run_findKey hkt (show Instr.findNow d (ρ' i) (#[] : Array MapEntry).toList 0 = some none from rfl), z1]
      · rename_i ob hx
        have hxv := (hρ _ _ hx).of_val
        generalize hvx : ρ' x = vx at hxv fin
        cases hxv with
        | map _ hlt =>
        split at h
        · rename_i es cl hob
          obtain ⟨ents, h1, R⟩ := M.mapAt hob
          split at h
          · rename_i j v hf
            simp only [Option.some.injEq] at h; subst h
            rcases findV_run hkv hok R hf with ⟨q1, _⟩ | ⟨m, en, ev, q1, q2, q3, q4, q5⟩
            · cases q1
            · simp only [Option.some.injEq, Prod.mk.injEq] at q1
              obtain ⟨rfl, rfl⟩ := q1
              refine fin ev.val true ⟨#[], trivial⟩ ?_ en.2.1 (R.2 m en ev q2 q3).2.1
              simp only [Instr.lookup, Sem.run_bind, run_underlying ht, Result.andThen_ok, Sem.run_pure, MapKept.run_getObj_map h1, run_checkKey hkt hkey, run_findKey hkt q5]
          · rename_i hf
            rw [Option.map_eq_some_iff] at h
            obtain ⟨z, hz, rfl⟩ := h
            obtain ⟨zv, z1, z2⟩ := zero_rel hz
            rcases findV_run hkv hok R hf with ⟨_, q2⟩ | ⟨m, en, ev, q1, _⟩
            · refine fin zv false ⟨#[], trivial⟩ ?_ z (z2 w gh _)
              simp only [Instr.lookup, Sem.run_bind, run_underlying ht, Result.andThen_ok, Sem.run_pure, MapKept.run_getObj_map h1, run_checkKey hkt hkey, run_findKey hkt q2, z1]
            · cases q1
          · cases h
        · cases h
      · cases h
    · cases h
  · cases h

/-- a map's block is written -/
theorem Mem.setMap (M : Mem E gh tab H w) {ob : Nat} {es es' : List (VV × VV × Nat)} {cl cl' : Nat} {ents : Array MapEntry} (hob : H.objs ob = some (.map es cl)) (h1 : w.heap[(gh.μ ob).blk]? = some (.map ents cl)) (ents' : Array MapEntry)
    (R : EntsRel gh H.next w es' ents'.toList) : Goes gh tab H.next w gh tab H.next { w with heap := w.heap.setIfInBounds (gh.μ ob).blk (.map ents' cl') } ∧ Mem E gh tab (H.set ob (some (.map es' cl'))) { w with heap := w.heap.setIfInBounds (gh.μ ob).blk (.map ents' cl') } :=
  M.setObj (o := ob) (obj := .map es' cl') (by simp [hob]) (fun b hb => (heap_set h1).2 b hb) (by simp) ⟨rfl, rfl, rfl⟩ fun hV =>
    ⟨ents', (heap_set h1).1, by simpa using R.1, fun i k v born e hi he => by
      obtain ⟨a, b, c⟩ := R.2 i (k, v, born) e hi (by simpa using he)
      exact ⟨hV _ _ a, hV _ _ b, c⟩⟩

theorem EntsRel.modify {nx : Nat} {es : List (VV × VV × Nat)} {ents : Array MapEntry} (R : EntsRel gh nx w es ents.toList) {m : Nat} {f : VV × VV × Nat → VV × VV × Nat} {g : MapEntry → MapEntry}
    (h : ∀ e ev, es[m]? = some e → ents[m]? = some ev → VR gh nx w (f e).1 (g ev).key ∧ VR gh nx w (f e).2.1 (g ev).val ∧ (g ev).born = (f e).2.2) : EntsRel gh nx w (es.modify m f) (ents.modify m g).toList := by
  refine ⟨by have := R.1; simpa using this, fun j e ev he hev => ?_⟩
  rw [List.getElem?_modify] at he
  have hev' : (ents.modify m g)[j]? = some ev := by rw [← Array.getElem?_toList]; exact hev
  rw [Array.getElem?_modify] at hev'
  by_cases hj : m = j
  · subst hj
    rw [if_pos rfl, Option.map_eq_some_iff] at hev'
    simp only [if_true, Option.map_eq_map, Option.map_eq_some_iff] at he
    obtain ⟨a, ha, rfl⟩ := he
    obtain ⟨b, hb, rfl⟩ := hev'
    exact h a b ha hb
  · rw [if_neg hj] at hev'
    simp only [hj, if_false, id_map'] at he
    obtain ⟨a, ha, rfl⟩ : ∃ a, es[j]? = some a ∧ a = e := ⟨e, by simpa using he, rfl⟩
    exact R.2 j _ ev ha (by simpa using hev')
theorem EntsRel.push {nx : Nat} {es : List (VV × VV × Nat)} {ents : Array MapEntry} (R : EntsRel gh nx w es ents.toList) {e : VV × VV × Nat} {ev : MapEntry} (h : VR gh nx w e.1 ev.key ∧ VR gh nx w e.2.1 ev.val ∧ ev.born = e.2.2) :
    EntsRel gh nx w (es ++ [e]) (ents.push ev).toList := by
  refine ⟨by have := R.1; simpa using this, fun j a b ha hb => ?_⟩
  rw [Array.toList_push] at hb
  have hl := R.1
  by_cases hj : j < es.length
  · rw [List.getElem?_append_left hj] at ha
    rw [List.getElem?_append_left (by omega)] at hb
    exact R.2 j a b ha hb
  · rw [List.getElem?_append_right (by omega)] at ha hb
    rw [hl] at hb
    cases hd : j - es.length with
    | zero =>
      rw [hd] at ha hb
      simp only [List.getElem?_cons_zero, Option.some.injEq] at ha hb
      subst ha; subst hb
      exact h
    | succ n => rw [hd] at ha; simp at ha

theorem mapSet_run (M : Mem E gh tab H w) {ρ : Operand → Option SV} {ρ' : Operand → Value} (hρ : ∀ x s, ρ x = some s → SRel gh tab H.next w s (ρ' x)) {o : Oper} {t : TypeId} {m k x : Operand} {r : SV × Hp} (ho : o.op = .mapUpdate t m k x)
    (h : mapSetV P t (ρ m) (ρ k) (ρ x) H = some r) : Stepped P E gh tab H w ρ' o ⟨r.1, tab, r.2⟩ := by
  unfold mapSetV at h
  split at h
  · rename_i d e ob kk vv hd hm hk hx
    obtain ⟨kt, ht, hkt⟩ := mapDesc_some hd
    have hkv := (hρ _ _ hk).of_val
    have hxv := (hρ _ _ hx).of_val
    have hmv := (hρ _ _ hm).of_val
    split at h
    · rename_i hok
      have hkey := keyOk_is hkv hok
      generalize hvm : ρ' m = vm at hmv
      cases hmv with
      | map _ hlt =>
      split at h
      · rename_i es cl hob
        obtain ⟨ents, h1, R⟩ := M.mapAt hob
        split at h
        · rename_i j v0 hf
          simp only [Option.some.injEq] at h; subst h
          rcases findV_run hkv hok R hf with ⟨q1, _⟩ | ⟨i, en, ev, q1, q2, q3, q4, q5⟩
          · cases q1
          · simp only [Option.some.injEq, Prod.mk.injEq] at q1
            obtain ⟨rfl, rfl⟩ := q1
            have hj : ents[i]? = some ev := by simpa using q3
            have R' := R.modify (m := 0 + i) (f := fun e => (kk, vv, e.2.2)) (g := fun e => { e with key := ρ' k, val := ρ' x }) (fun e ev h2 h3 => ⟨hkv, hxv, (R.2 _ e ev h2 (by simpa using h3)).2.2⟩)
            obtain ⟨T, M'⟩ := M.setMap (cl' := cl) hob h1 _ R'
            refine ⟨gh, undef, _, .inr ⟨?_, rfl⟩, T, M', .val _ _ .undef⟩
            simp [execOp, ho, hvm, Instr.mapUpdate, run_underlying ht, MapKept.run_getObj_map h1, run_checkKey hkt hkey, run_findKey hkt q5, hj, q4, run_keyThatStays hkey, run_setObj_map _ h1, Result.andThen]
        · rename_i hf
          simp only [Option.some.injEq] at h; subst h
          rcases findV_run hkv hok R hf with ⟨_, q2⟩ | ⟨i, en, ev, q1, _⟩
          · have R' := R.push (e := (kk, vv, cl)) (ev := { key := ρ' k, val := ρ' x, born := cl }) ⟨hkv, hxv, rfl⟩
            obtain ⟨T, M'⟩ := M.setMap (cl' := cl + 1) hob h1 _ R'
            refine ⟨gh, undef, _, .inr ⟨?_, rfl⟩, T, M', .val _ _ .undef⟩
            simp [execOp, ho, hvm, Instr.mapUpdate, run_underlying ht, MapKept.run_getObj_map h1, run_checkKey hkt hkey, run_findKey hkt q2, run_setObj_map _ h1, Result.andThen]
          · cases q1
        · cases h
      · cases h
    · cases h
  · cases h
theorem mapEnt_run (M : Mem E gh tab H w) {ρ : Operand → Option SV} {ρ' : Operand → Value} (hρ : ∀ x s, ρ x = some s → SRel gh tab H.next w s (ρ' x)) {o : Oper} {t : TypeId} {m k : Operand} {r : SV × Hp} (ho : o.op = .mapEntry t m k)
    (h : mapEntV P t (ρ m) (ρ k) H = some r) : Stepped P E gh tab H w ρ' o ⟨r.1, tab, r.2⟩ := by
  have pair : ∀ {a b : VV} {u v : Value} {w' : World} {nx : Nat}, VR gh nx w' a u → VR gh nx w' b v → SRel gh tab nx w' (.tup [.val a, .val b]) (.tuple #[u, v]) := fun {a b u v w' nx} h1 h2 =>
    .tup [.val a, .val b] [u, v] rfl fun i y z hy hz => by
      match i with
      | 0 => simp only [List.getElem?_cons_zero, Option.some.injEq] at hy hz; subst hy; subst hz; exact .val _ _ h1
      | 1 => simp only [List.getElem?_cons_succ, List.getElem?_cons_zero, Option.some.injEq] at hy hz; subst hy; subst hz; exact .val _ _ h2
      | i + 2 => simp at hy
  unfold mapEntV at h
  split at h
  · rename_i d e ob kk hd hm hk
    obtain ⟨kt, ht, hkt⟩ := mapDesc_some hd
    have hkv := (hρ _ _ hk).of_val
    have hmv := (hρ _ _ hm).of_val
    split at h
    · rename_i hok
      have hkey := keyOk_is hkv hok
      generalize hvm : ρ' m = vm at hmv
      cases hmv with
      | map _ hlt =>
      split at h
      · rename_i es cl hob
        obtain ⟨ents, h1, R⟩ := M.mapAt hob
        split at h
        · rename_i j v0 hf
          split at h
          · rename_i en0 hen
            simp only [Option.some.injEq] at h; subst h
            rcases findV_run hkv hok R hf with ⟨q1, _⟩ | ⟨i, en, ev, q1, q2, q3, q4, q5⟩
            · cases q1
            · simp only [Option.some.injEq, Prod.mk.injEq] at q1
              obtain ⟨rfl, rfl⟩ := q1
              have hj : ents[i]? = some ev := by simpa using q3
              have he0 : en0 = en := by rw [Nat.zero_add, q2] at hen; cases hen; rfl
              subst he0
              obtain ⟨p1, p2, p3⟩ := R.2 i en0 ev q2 q3
              have R' := R.modify (m := 0 + i) (f := fun e => (kk, e.2.1, e.2.2)) (g := fun e => { e with key := ρ' k }) (fun e ev h2 h3 => ⟨hkv, (R.2 _ e ev h2 (by simpa using h3)).2.1, (R.2 _ e ev h2 (by simpa using h3)).2.2⟩)
              obtain ⟨T, M'⟩ := M.setMap (cl' := cl) hob h1 _ R'
              refine ⟨gh, .tuple #[ev.val, goInt ev.born], _, .inl ?_, T, M', pair (T.v p2) ?_⟩
              · simp [execOp, ho, hvm, Instr.mapEntry, run_underlying ht, MapKept.run_getObj_map h1, run_checkKey hkt hkey, run_findKey hkt q5, hj, q4, run_keyThatStays hkey, run_setObj_map _ h1, Result.andThen]
              · rw [p3]; exact .int _ _
          · cases h
        · rename_i hf
          rw [Option.map_eq_some_iff] at h
          obtain ⟨z, hz, rfl⟩ := h
          obtain ⟨zv, z1, z2⟩ := zero_rel hz
          rcases findV_run hkv hok R hf with ⟨_, q2⟩ | ⟨i, en, ev, q1, _⟩
          · have R' := R.push (e := (kk, z, cl)) (ev := { key := ρ' k, val := zv, born := cl }) ⟨hkv, z2 _ _ _, rfl⟩
            obtain ⟨T, M'⟩ := M.setMap (cl' := cl + 1) hob h1 _ R'
            refine ⟨gh, .tuple #[zv, goInt cl], _, .inl ?_, T, M', pair (z2 _ _ _) (.int _ _)⟩
            simp [execOp, ho, hvm, Instr.mapEntry, run_underlying ht, MapKept.run_getObj_map h1, run_checkKey hkt hkey, run_findKey hkt q2, z1, run_setObj_map _ h1, Result.andThen]
          · cases q1
        · cases h
      · cases h
    · cases h
  · cases h

theorem findIdx_same {nx : Nat} {born : Int} : ∀ {es : List (VV × VV × Nat)} {l : List MapEntry}, EntsRel gh nx w es l → l.findIdx? (fun e => (e.born : Int) == born) = es.findIdx? fun e => (e.2.2 : Int) == born
  | [], l, R => by
    have : l = [] := List.length_eq_zero_iff.1 R.1
    subst this; rfl
  | e :: es, [], R => by have := R.1; simp at this
  | e :: es, ev :: l, R => by
    have R' : EntsRel gh nx w es l := ⟨by have := R.1; simpa using this, fun j a b ha hb => R.2 (j + 1) a b ha hb⟩
    have h0 := (R.2 0 e ev rfl rfl).2.2
    rw [List.findIdx?_cons, List.findIdx?_cons, findIdx_same R', h0]
theorem entStore_run (M : Mem E gh tab H w) {ρ : Operand → Option SV} {ρ' : Operand → Value} (hρ : ∀ x s, ρ x = some s → SRel gh tab H.next w s (ρ' x)) {o : Oper} {t : TypeId} {m k x : Operand} {r : SV × Hp} (ho : o.op = .entryStore t m k x)
    (h : entStoreV (ρ m) (ρ k) (ρ x) H = some r) : Stepped P E gh tab H w ρ' o ⟨r.1, tab, r.2⟩ := by
  unfold entStoreV at h
  split at h
  · rename_i ob born vv hm hk hx
    have hkv := (hρ _ _ hk).of_val
    have hxv := (hρ _ _ hx).of_val
    have hmv := (hρ _ _ hm).of_val
    generalize hvm : ρ' m = vm at hmv
    generalize hvk : ρ' k = vk at hkv
    cases hmv with
    | map _ hlt =>
    cases hkv with
    | int =>
    split at h
    · rename_i es cl hob
      obtain ⟨ents, h1, R⟩ := M.mapAt hob
      split at h
      · rename_i i hi
        simp only [Option.some.injEq] at h; subst h
        have hi' : ents.findIdx? (fun e => (e.born : Int) == born) = some i := by rw [← Array.toArray_toList (xs := ents), List.findIdx?_toArray, findIdx_same R]; exact hi
        have R' := R.modify (m := i) (f := fun e => (e.1, vv, e.2.2)) (g := fun e => { e with val := ρ' x }) (fun e ev h2 h3 => ⟨(R.2 _ e ev h2 (by simpa using h3)).1, hxv, (R.2 _ e ev h2 (by simpa using h3)).2.2⟩)
        obtain ⟨T, M'⟩ := M.setMap (cl' := cl) hob h1 _ R'
        refine ⟨gh, undef, _, .inr ⟨?_, rfl⟩, T, M', .val _ _ .undef⟩
        simp [execOp, ho, hvm, hvk, Instr.entryStore, MapKept.run_getObj_map h1, asInt, asIntOf, hi', run_setObj_map _ h1, Result.andThen]
      · cases h
    · cases h
  · cases h

theorem EntsRel.erase {nx : Nat} {es : List (VV × VV × Nat)} {ents : Array MapEntry} (R : EntsRel gh nx w es ents.toList) (m : Nat) : EntsRel gh nx w (es.eraseIdx m) (ents.eraseIdxIfInBounds m).toList := by
  have e : (ents.eraseIdxIfInBounds m).toList = ents.toList.eraseIdx m := by
    unfold Array.eraseIdxIfInBounds
    split
    · simp
    · rw [List.eraseIdx_of_length_le (by simp; omega)]
  rw [e]
  have hl := R.1
  refine ⟨by rw [List.length_eraseIdx, List.length_eraseIdx, hl], fun j a b ha hb => ?_⟩
  rw [List.getElem?_eraseIdx] at ha hb
  split at ha
  · rename_i hj; rw [if_pos hj] at hb; exact R.2 j a b ha hb
  · rename_i hj; rw [if_neg hj] at hb; exact R.2 (j + 1) a b ha hb
theorem delete_run (M : Mem E gh tab H w) {ρ : Operand → Option SV} {ρ' : Operand → Value} (hρ : ∀ x s, ρ x = some s → SRel gh tab H.next w s (ρ' x)) {o : Oper} {c : Call} {m k : Operand} {t t' : TypeId} {r : SV × Hp}
    (ho : o.op = .call c) (hc : c.callee = .builtin .delete) (ha : c.args.toList = [m, k]) (ht : c.argTypes.toList = [t, t']) (h : deleteV P t (ρ m) (ρ k) H = some r) : Stepped P E gh tab H w ρ' o ⟨r.1, tab, r.2⟩ := by
  have hrun : ∀ v w', (Builtin.delete_ #[t, t'] o.type #[ρ' m, ρ' k]).run P w = .ok v w' → (execOp ρ' o).run P w = .ok (.value v) w' := by
    intro v w' hr
    rw [builtin_run ho hc, arr2 ha, arr2 ht]
    simp only [builtin, List.map_toArray, List.map_cons, List.map_nil, Sem.run_bind]
    rw [hr]
    rfl
  have hnil : ∀ {w' : World} {nx : Nat}, SRel gh tab nx w' (.tup []) (.tuple #[]) := fun {w' nx} => .tup [] [] rfl fun i x v hx => by simp at hx
  unfold deleteV at h
  split at h
  · rename_i d e ob kk hd hm hk
    obtain ⟨kt, hu, hkt⟩ := mapDesc_some hd
    have hkv := (hρ _ _ hk).of_val
    have hmv := (hρ _ _ hm).of_val
    split at h
    · rename_i hok
      have hkey := keyOk_is hkv hok
      generalize hvm : ρ' m = vm at hmv hrun
      cases hmv with
      | map _ hlt =>
      split at h
      · rename_i es cl hob
        obtain ⟨ents, h1, R⟩ := M.mapAt hob
        split at h
        · rename_i j v0 hf
          simp only [Option.some.injEq] at h; subst h
          rcases findV_run hkv hok R hf with ⟨q1, _⟩ | ⟨i, en, ev, q1, q2, q3, q4, q5⟩
          · cases q1
          · simp only [Option.some.injEq, Prod.mk.injEq] at q1
            obtain ⟨rfl, rfl⟩ := q1
            obtain ⟨T, M'⟩ := M.setMap (cl' := cl) hob h1 _ (R.erase (0 + i))
            refine ⟨gh, _, _, .inl (hrun (.tuple #[]) _ ?_), T, M', hnil⟩
            simp [Builtin.delete_, run_underlying hu, MapKept.run_getObj_map h1, run_checkKey hkt hkey, run_findKey hkt q5, run_setObj_map _ h1, Result.andThen]
        · rename_i hf
          simp only [Option.some.injEq] at h; subst h
          rcases findV_run hkv hok R hf with ⟨_, q2⟩ | ⟨i, en, ev, q1, _⟩
          · obtain ⟨T, M'⟩ := M.setMap (cl' := cl) hob h1 _ R
            refine ⟨gh, _, _, .inl (hrun (.tuple #[]) _ ?_), T, M', hnil⟩
            simp [Builtin.delete_, run_underlying hu, MapKept.run_getObj_map h1, run_checkKey hkt hkey, run_findKey hkt q2, run_setObj_map _ h1, Result.andThen]
          · cases q1
        · cases h
      · cases h
    · cases h
  · rename_i d e kk hd hm hk
    obtain ⟨kt, hu, hkt⟩ := mapDesc_some hd
    have hkv := (hρ _ _ hk).of_val
    have hmv := (hρ _ _ hm).of_val
    split at h
    · rename_i hok
      have hkey := keyOk_is hkv hok
      simp only [Option.some.injEq] at h; subst h
      generalize hvm : ρ' m = vm at hmv hrun
      cases hmv with
      | mapn =>
      refine ⟨gh, _, w, .inl (hrun (.tuple #[]) w ?_), Goes.refl _ _ _ _, M, hnil⟩
      simp [Builtin.delete_, run_underlying hu, run_checkKey hkt hkey, Result.andThen]
    · cases h
  · cases h

theorem makeMap_run (M : Mem E gh tab H w) {ρ : Operand → Option SV} {ρ' : Operand → Value} {o : Oper} {t : TypeId} {rv : Option Operand} {r : SV × Hp} (ho : o.op = .makeMap t rv)
    (h : makeMapV (rv.map ρ) H = some r) : Stepped P E gh tab H w ρ' o ⟨r.1, tab, r.2⟩ := by
  cases rv with
  | some x => simp [makeMapV] at h
  | none =>
    simp only [makeMapV, Option.map_none, Option.some.injEq] at h
    subst h
    obtain ⟨T, M'⟩ := M.putObj (obj := .map [] 0) (m := ⟨w.heap.size, 0, 0⟩) (w' := w.alloc (.map #[] 0)) (fun b hb => push_ne w _ hb) (by rw [push_size]; omega) ⟨rfl, rfl, rfl⟩
      (fun d hd => Nat.ne_of_lt (M.lt hd)) (fun o ho => Nat.ne_of_lt (M.objLt o ho).2.2) (.inl M.size) (M.G0 _ (Nat.le_refl _)) (by rw [push_size]; exact Nat.lt_succ_self _)
      (fun hV => ⟨#[], push_at w _, rfl, fun i k v born e hi => by simp at hi⟩)
    refine ⟨_, .map (some w.heap.size), _, .inl ?_, T, M', ?_⟩
    · simp only [execOp, ho, Instr.makeMap, Sem.run_bind, Result.andThen_ok, run_newObj, Sem.run_pure]
      rfl
    · have hh := VRel.map (μ := Vi.upd gh.μ H.next ⟨w.heap.size, 0, 0⟩) (nx := H.next + 1) (G := gh.G) (w := w.alloc (.map #[] 0)) H.next (Nat.lt_succ_self _)
      rw [upd_same] at hh
      exact .val _ _ hh

theorem assert_run (M : Mem E gh tab H w) {ρ : Operand → Option SV} {ρ' : Operand → Value} (hρ : ∀ x s, ρ x = some s → SRel gh tab H.next w s (ρ' x)) {o : Oper} {x : Operand} {xt a : TypeId} {ok : Bool} {r : SV} (ho : o.op = .typeAssert x xt a ok)
    (h : assertV P a (ρ x) ok = some r) : Stepped P E gh tab H w ρ' o ⟨r, tab, H⟩ := by
  have fin : ∀ u b, (Instr.typeAssert (ρ' x) xt a ok).run P w = .ok (if ok then .tuple #[u, .bool b] else u) w → ∀ v, VR gh H.next w v u → Stepped P E gh tab H w ρ' o ⟨okPair ok v b, tab, H⟩ := fun u b hr v hv => by
    refine ⟨gh, _, w, .inl ?_, Goes.refl _ _ _ _, M, okPair_rel hv⟩
    simp only [execOp, ho, Sem.run_bind, hr, Result.andThen_ok, Sem.run_pure]
  unfold assertV at h
  split at h
  · cases h
  · rename_i d t v hni hd hx
    have hxv := (hρ _ _ hx).of_val
    generalize hvx : ρ' x = vx at hxv fin
    cases hxv with
    | iface _ _ u hu =>
    split at h
    · rename_i hta
      subst hta
      simp only [Option.some.injEq] at h; subst h
      refine fin u true ?_ v hu
      cases d <;> simp [Instr.typeAssert, run_underlying hd, Result.andThen] <;> exact absurd rfl (hni _)
    · rename_i hta
      split at h
      · rename_i hok
        subst hok
        rw [Option.map_eq_some_iff] at h
        obtain ⟨z, hz, rfl⟩ := h
        obtain ⟨zv, z1, z2⟩ := zero_rel hz
        refine fin zv false ?_ z (z2 _ _ _)
        cases d <;> simp [Instr.typeAssert, run_underlying hd, Result.andThen, hta, z1] <;> exact absurd rfl (hni _)
      · cases h
  · rename_i d hni hd hx
    have hxv := (hρ _ _ hx).of_val
    generalize hvx : ρ' x = vx at hxv fin
    cases hxv with
    | nili =>
    split at h
    · rename_i hok
      subst hok
      rw [Option.map_eq_some_iff] at h
      obtain ⟨z, hz, rfl⟩ := h
      obtain ⟨zv, z1, z2⟩ := zero_rel hz
      refine fin zv false ?_ z (z2 _ _ _)
      cases d <;> simp [Instr.typeAssert, run_underlying hd, Result.andThen, z1] <;> exact absurd rfl (hni _)
    · cases h
  · cases h
end
end Go.Vi

/-
  One operation.
-/
namespace Go.Vi
set_option linter.unusedVariables false
set_option linter.unusedSimpArgs false

section
variable {P : Program} {E : En} {gh : Gh} {tab : List TC} {H : Hp} {w : World}

theorem pureV_steps (M : Mem E gh tab H w) {ρ : Operand → Option SV} {a : Act} (hρ : ∀ x s, ρ x = some s → SRel gh tab H.next w s (a.eval x)) {o : Oper} {s : St}
    (h : (pureV P ρ o.op).map (fun v => (⟨v, tab, H⟩ : St)) = some s) : StepsTo P o a w (Res E gh tab H w s) := by
  rw [Option.map_eq_some_iff] at h
  obtain ⟨v, hv, rfl⟩ := h
  obtain ⟨u, hr, hs⟩ := pureV_run (P := P) hρ (fun _ _ => trivial) hv
  exact Stepped.steps ⟨gh, u, w, .inl hr, Goes.refl _ _ _ _, M, hs⟩

theorem stepV_run {pol : Pol} {keys : Nat → List Nat} {call : CallV} (hcall : CallOk P pol call) (M : Mem E gh tab H w) {ρ : Operand → Option SV} {a : Act}
    (hρ : ∀ x s, ρ x = some s → SRel gh tab H.next w s (a.eval x)) {o : Oper} {s : St} (h : stepV P pol keys call o.dst ρ tab H o.op = some s) : StepsTo P o a w (Res E gh tab H w s) := by
  have hp := pureV_steps (P := P) (o := o) (s := s) M hρ
  cases ho : o.op with
  | alloc e =>
    rw [ho] at h; simp only [stepV] at h
    split at h
    · rename_i d z hd hz
      split at h
      · simp only [Option.some.injEq] at h
        subst h
        exact (alloc_runH M ho hz).steps
      · split at h
        · rename_i hlt
          simp only [Option.some.injEq] at h
          subst h
          exact (alloc_run M ho hlt hz).steps
        · simp at h
    · simp at h
  | box e x =>
    rw [ho] at h; simp only [stepV] at h
    split at h
    · rename_i d v hd hx
      split at h
      · split at h
        · rename_i hone
          split at h
          · rename_i us tab' H' hm
            simp only [Option.some.injEq] at h
            subst h
            exact (box_runH M ho (hρ _ _ hx) hone hm).steps
          · simp at h
        · simp at h
      · split at h
        · rename_i hlt
          simp only [Option.some.injEq] at h
          subst h
          exact (box_run M ho hlt.1 (hρ _ _ hx) hlt.2).steps
        · simp at h
    · simp at h
  | build t parts =>
    rw [ho] at h; simp only [stepV] at h
    split at h
    · rename_i z fs ps hz hf hps
      split at h
      · rename_i qs hq
        split at h
        · rename_i cs hc
          split at h
          · rename_i hall
            simp only [Option.some.injEq] at h
            subst h
            exact (build_run M hρ ho hz hf hps hq hc hall).steps
          · simp at h
        · simp at h
      · simp at h
    · simp at h
  | buildSlice t len parts =>
    rw [ho] at h; simp only [stepV] at h
    split at h
    · rename_i e ps he hps
      split at h
      · rename_i n z vs tab' hn hz hv
        split at h
        · simp at h
        · rename_i hc
          split at h
          · rename_i es d hf hd
            obtain ⟨q1, q2⟩ := buildSlice_run M hρ (d := d) ho he hps hn hz hv hc hf
            split at h
            · rename_i h0
              simp only [Option.some.injEq] at h
              subst h
              exact (q1 h0).steps
            · rename_i h0
              split at h
              · rename_i hlt
                simp only [Option.some.injEq] at h
                subst h
                exact (q2 h0 hlt).steps
              · simp at h
          · simp at h
      · simp at h
    · simp at h
  | makeInterface t x =>
    rw [ho] at h; simp only [stepV] at h
    split at h
    · simp at h
    · rename_i d a' hne hu hx
      split at h
      · rename_i v tab' hv
        simp only [Option.some.injEq] at h
        subst h
        exact (makeInterface_run M hρ ho hu (fun ms e => hne ms e) hx hv).steps
      · simp at h
    · simp at h
  | load t x =>
    rw [ho] at h hp; simp only [stepV] at h
    split at h
    · rename_i d g off hx
      split at h
      · rename_i g' cs wr hr
        split at h
        · rename_i hg
          subst hg
          rw [Option.map_eq_some_iff] at h
          obtain ⟨v, hv, rfl⟩ := h
          exact (load_loc_run M ho (hρ _ _ hx) hr hv).steps
        · simp at h
      · simp at h
    · rename_i d g i off s' hx
      split at h
      · rename_i g' es sz lk hr
        split at h
        · rename_i hg
          obtain ⟨rfl, rfl⟩ := hg
          split at h
          · rename_i e he
            rw [Option.map_eq_some_iff] at h
            obtain ⟨v, hv, rfl⟩ := h
            exact (load_rel_run M ho (hρ _ _ hx) hr he hv).steps
          · simp at h
        · simp at h
      · simp at h
    · rename_i ob off hx
      rw [Option.map_eq_some_iff] at h
      obtain ⟨v, hv, rfl⟩ := h
      exact (load_runH M ho (hρ _ _ hx) hv).steps
    · exact hp h
  | store t x y =>
    rw [ho] at h; simp only [stepV] at h
    split at h
    · rename_i ob off v hx hy
      split at h
      · rename_i hone
        split at h
        · rename_i us tab' H' hm
          rw [Option.map_eq_some_iff] at h
          obtain ⟨H2, hs, rfl⟩ := h
          exact (store_runH M ho (hρ _ _ hx) (hρ _ _ hy) hone hm hs).steps
        · simp at h
      · simp at h
    · rename_i d g off v hx hy
      split at h
      · rename_i g' cs hr
        split at h
        · rename_i hc
          obtain ⟨rfl, h1, h2, h3⟩ := hc
          simp only [Option.some.injEq] at h
          subst h
          exact (store_loc_run M ho (hρ _ _ hx) (hρ _ _ hy) hr h1 h2 h3).steps
        · simp at h
      · simp at h
    · rename_i d g i off s' v hx hy
      split at h
      · rename_i u tab' hu
        split at h
        · rename_i g' es sz hr
          split at h
          · rename_i hc
            obtain ⟨rfl, rfl, h1, h2, h3⟩ := hc
            split at h
            · rename_i e he
              split at h
              · rename_i e' hse
                simp only [Option.some.injEq] at h
                subst h
                exact (store_rel_run M ho (hρ _ _ hx) (hρ _ _ hy) hu hr h1 h2 he hse (fun e => by rw [e] at h3; simp at h3)).steps
              · simp at h
            · simp at h
          · simp at h
        · simp at h
      · simp at h
    · simp at h
  | makeSlice t l c =>
    rw [ho] at h; simp only [stepV] at h
    split at h
    · rename_i d n m e hd hl hc he
      split at h
      · rename_i z sz i hz hs hi
        split at h
        · rename_i hh
          obtain ⟨h1, h2, h3, h4, h5, h6⟩ := hh
          simp only [Option.some.injEq] at h
          subst h
          have e1 : a.eval l = .int .i64 n := by
            have := (hρ _ _ hl).of_val
            generalize a.eval l = v at this
            cases this; rfl
          have e2 : a.eval c = .int .i64 m := by
            have := (hρ _ _ hc).of_val
            generalize a.eval c = v at this
            cases this; rfl
          exact (makeSlice_run M ho e1 e2 he hz hs hi h1 h2 h3 h4 h5 h6).steps
        · simp at h
      · simp at h
    · simp at h
  | makeFunc fn first captured =>
    rw [ho] at h; simp only [stepV] at h
    split at h
    · rename_i f fs cs hf hc
      split at h
      · rename_i us tab' h1
        split at h
        · rename_i ws tab'' h2
          simp only [Option.some.injEq] at h
          subst h
          exact (makeFunc_run M hρ ho hf hc h1 h2).steps
        · simp at h
      · simp at h
    · simp at h
  | call c =>
    rw [ho] at h hp; simp only [stepV] at h
    split at h
    · rename_i x y t t' hc ha ht
      split at h
      · rename_i he
        subst he
        split at h
        · rename_i ob off n s0 hx
          exact (appendH_run M hρ ho hc ha ht hx h).steps
        · exact (appendV_run M hρ ho hc ha ht h).steps
      · simp at h
    · rename_i x y t t' hc ha ht
      split at h
      · rename_i he
        subst he
        exact (copyV_run M hρ ho hc ha ht h).steps
      · simp at h
    · rename_i x t hc ha ht
      exact (clearV_run M hρ ho hc ha ht h).steps
    · rename_i m k t t' hc ha ht
      simp only [mapSt, Option.map_eq_some_iff] at h
      obtain ⟨r, hr, rfl⟩ := h
      exact (delete_run M hρ ho hc ha ht hr).steps
    · rename_i f hc
      exact callsV_run hcall M hρ ho hc h
    · rename_i r name hc
      exact invoke_run hcall M hρ ho hc h
    · exact hp h
  | mapUpdate t m k x =>
    rw [ho] at h; simp only [stepV, mapSt, Option.map_eq_some_iff] at h
    obtain ⟨q, hq, rfl⟩ := h
    exact (mapSet_run M hρ ho hq).steps
  | mapEntry t m k =>
    rw [ho] at h; simp only [stepV, mapSt, Option.map_eq_some_iff] at h
    obtain ⟨q, hq, rfl⟩ := h
    exact (mapEnt_run M hρ ho hq).steps
  | entryStore t m s x =>
    rw [ho] at h; simp only [stepV, mapSt, Option.map_eq_some_iff] at h
    obtain ⟨q, hq, rfl⟩ := h
    exact (entStore_run M hρ ho hq).steps
  | makeMap t r =>
    rw [ho] at h; simp only [stepV, mapSt, Option.map_eq_some_iff] at h
    obtain ⟨q, hq, rfl⟩ := h
    exact (makeMap_run (ρ := ρ) M ho hq).steps
  | lookup t x i ok =>
    rw [ho] at h; simp only [stepV, Option.map_eq_some_iff] at h
    obtain ⟨q, hq, rfl⟩ := h
    exact (lookup_run M hρ ho hq).steps
  | typeAssert x xt a ok =>
    rw [ho] at h; simp only [stepV, Option.map_eq_some_iff] at h
    obtain ⟨q, hq, rfl⟩ := h
    exact (assert_run M hρ ho hq).steps
  | _ =>
    rw [ho] at h hp
    simp only [stepV] at h
    exact hp h

end
end Go.Vi

/-
  Code.
-/
namespace Go.Vi
set_option linter.unusedVariables false
set_option linter.unusedSimpArgs false

/-- a frame of the interpreter stands for a frame of the machine -/
def Sim (E : En) (fr : Fr) (H : Hp) (a : Act) (w : World) : Prop :=
  ∃ gh, Mem E gh fr.tab H w ∧ SsRel gh fr.tab H.next w fr.slots a.tmps.toList ∧ a.defers = []

def vex : VEx → Exit
  | .normal => .normal
  | .exit id => .exit id
  | .ret => .ret

section
variable {P : Program} {E : En}

theorem SRel.of_bool {gh : Gh} {tab : List TC} {nx : Nat} {w : World} {s : SV} {b : Bool} (h : SRel gh tab nx w s (.bool b)) : s = .val (.bool b) := by
  cases h with
  | val v x h => cases h; rfl

theorem yieldedV_eq {gh : Gh} {tab : List TC} {nx : Nat} {w : World} {ops : Array Oper} {slots : List SV} {tmps : Array Value} (h : SsRel gh tab nx w slots tmps.toList) (j : Nat) : yieldedV ops slots j = yielded ops tmps j := by
  unfold yieldedV yielded
  cases hd : (ops[j]?).bind (·.dst) with
  | none => rfl
  | some t =>
    simp only [Option.bind_some]
    have hl := h.len
    cases hs : slots[t]? with
    | none =>
      have : tmps[t]? = none := by
        have := List.getElem?_eq_none_iff.1 hs
        simp at hl
        simp; omega
      rw [this]
    | some s =>
      have hlt := (List.getElem?_eq_some_iff.1 hs).1
      simp at hl
      have hv : tmps[t]? = some tmps[t] := by simp [hl, hlt]
      have hr := h.rel t s tmps[t] hs (by simp)
      rw [hv]
      generalize tmps[t] = u at hr
      cases hr with
      | val u x hu => cases hu <;> rfl
      | _ => rfl

theorem SsRel.put {gh : Gh} {tab : List TC} {nx : Nat} {w : World} {slots : List SV} {a : Act} (h : SsRel gh tab nx w slots a.tmps.toList) {t : List TC} {dst : Option Tmp} {s : SV} {v : Value} (hv : SRel gh tab nx w s v) :
    SsRel gh tab nx w (Fr.put ⟨slots, t⟩ dst s).slots (a.put dst v).tmps.toList := by
  cases dst with
  | none => exact h
  | some d =>
    refine ⟨by have := h.len; simp [Fr.put, Act.put] at this ⊢; exact this, fun i x u hx hu => ?_⟩
    simp only [Fr.put, Act.put, Array.toList_setIfInBounds] at hx hu
    rw [List.getElem?_set] at hx hu
    by_cases hid : d = i
    · subst hid
      simp only [if_true] at hx hu
      split at hx
      · split at hu
        · simp only [Option.some.injEq] at hx hu
          subst hx; subst hu; exact hv
        · simp at hu
      · simp at hx
    · rw [if_neg hid] at hx hu
      exact h.rel i x u hx hu

theorem Fr.put_tab (fr : Fr) (dst : Option Tmp) (s : SV) : (fr.put dst s).tab = fr.tab := by cases dst <;> rfl

theorem put_defers0 (a : Act) (dst : Option Tmp) (v : Value) : (a.put dst v).defers = a.defers := by cases dst <;> rfl

theorem Sim.put {gh : Gh} {fr : Fr} {H : Hp} {a : Act} {w : World} (M : Mem E gh fr.tab H w) (S : SsRel gh fr.tab H.next w fr.slots a.tmps.toList) (D : a.defers = []) {dst : Option Tmp} {s : SV} {v : Value} (hv : SRel gh fr.tab H.next w s v) :
    Sim E (fr.put dst s) H (a.put dst v) w :=
  ⟨gh, by rw [Fr.put_tab]; exact M, by
    rw [Fr.put_tab]
    exact S.put (t := fr.tab) hv, by rw [put_defers0]; exact D⟩

/-- one operation of a region -/
theorem opV_run {pol : Pol} {keys : Nat → List Nat} {call : CallV} (hcall : CallOk P pol call) {ops : Array Oper} {i : Nat} {o : Oper} (hi : ops[i]? = some o) {fr fr' : Fr} {H H' : Hp} {a : Act} {w : World}
    (h : opV P pol keys call ops o fr H = some (fr', H')) (S : Sim E fr H a w) {K : Act → World → Prop} {Q : Exit → Act → World → Prop} (hK : ∀ a' w', Sim E fr' H' a' w' → K a' w') : wpOp P ops Q i K a w := by
  obtain ⟨gh, M, SS, D⟩ := S
  have hy : ∀ j, yieldedV ops fr.slots j = yielded ops a.tmps j := yieldedV_eq SS
  unfold opV at h
  rw [funext hy] at h
  unfold wpOp
  simp only [hi]
  split at h
  · rename_i hw
    rw [if_pos hw]
    left
    split at h
    · rename_i s hs
      simp only [Option.some.injEq, Prod.mk.injEq] at h
      obtain ⟨rfl, rfl⟩ := h
      refine stepV_run hcall M (fun x s hx => ev_rel SS hx) hs K Q fun v w' ⟨gh', T, M', R⟩ => hK _ _ ?_
      exact Sim.put (fr := { fr with tab := s.tab }) M' (T.ss SS) D R
    · simp at h
  · rename_i hw
    rw [if_neg hw]
    simp only [Option.some.injEq, Prod.mk.injEq] at h
    obtain ⟨rfl, rfl⟩ := h
    exact hK _ _ (Sim.put M SS D (.val _ _ .undef))

/-- operations in some order -/
theorem opsV_run {pol : Pol} {keys : Nat → List Nat} {call : CallV} (hcall : CallOk P pol call) {ops : Array Oper} {Q : Exit → Act → World → Prop} : ∀ (l : List Nat) {fr fr' : Fr} {H H' : Hp} {a : Act} {w : World},
    opsV P pol keys call ops (l.filterMap (ops[·]?)) fr H = some (fr', H') → Sim E fr H a w → (∀ a' w', Sim E fr' H' a' w' → Q .normal a' w') → wpOps P ops Q l a w
  | [], fr, fr', H, H', a, w, h, S, hQ => by
    simp [opsV] at h
    obtain ⟨rfl, rfl⟩ := h
    exact hQ a w S
  | i :: l, fr, fr', H, H', a, w, h, S, hQ => by
    rw [wpOps_cons]
    cases hi : ops[i]? with
    | none =>
      rw [List.filterMap_cons, hi] at h
      unfold wpOp
      simp only [hi]
      exact opsV_run hcall l h S hQ
    | some o =>
      rw [List.filterMap_cons, hi] at h
      simp only [opsV] at h
      split at h
      · rename_i fr1 H1 h1
        exact opV_run hcall hi h1 S fun a' w' S' => opsV_run hcall l h S' hQ
      · simp at h

theorem range_ops (ops : Array Oper) : (List.range ops.size).filterMap (ops[·]?) = ops.toList := by
  apply List.ext_getElem?
  intro i
  have : ∀ (l : List Oper), (List.range l.length).filterMap (l[·]?) = l := by
    intro l
    induction l with
    | nil => rfl
    | cons x l ih =>
      rw [List.length_cons, List.range_succ_eq_map, List.filterMap_cons]
      simp only [List.getElem?_cons_zero, List.filterMap_map, Function.comp_def, List.getElem?_cons_succ]
      rw [ih]
  have := this ops.toList
  simp only [Array.length_toList, Array.getElem?_toList] at this
  rw [this]

/-- all orders of a drawn region lead to the same end -/
def DrawnOk (P : Program) (pol : Pol) (keys : Nat → List Nat) (call : CallV) : Prop :=
  ∀ (ops : Array Oper) (fr fr' : Fr) (H H' : Hp) (t : Nat), edgesOk ops = true → (calmB ops = true ∨ pairsOk ops (feetV P pol keys call ops ops.toList fr H) = true) → opsV P pol keys call ops ops.toList fr H = some (fr', H') →
    opsV P pol keys call ops ((Region.schedule true ops t).filterMap (ops[·]?)) fr H = some (fr', H')

theorem Sim.heap {fr : Fr} {H : Hp} {a : Act} {w w' : World} (S : Sim E fr H a w) (h : w'.heap = w.heap) (hst : Still w w') : Sim E fr H a w' := by
  obtain ⟨gh, M, SS, D⟩ := S
  obtain ⟨T, M'⟩ := M.heap h hst
  exact ⟨gh, M', T.ss SS, D⟩

theorem frzSlot_run {gh : Gh} {tab : List TC} {H : Hp} {w : World} (M : Mem E gh tab H w) {x u : SV} {v : Value} {tab' : List TC} (h : SRel gh tab H.next w x v) (ho : frzSlot tab x = some (u, tab')) :
    ∃ gh', Goes gh tab H.next w gh' tab' H.next w ∧ Mem E gh' tab' H w ∧ SRel gh' tab' H.next w u v := by
  have plain : (outT tab x).map (fun (u, t) => ((SV.val u, t) : SV × List TC)) = some (u, tab') → ∃ gh', Goes gh tab H.next w gh' tab' H.next w ∧ Mem E gh' tab' H w ∧ SRel gh' tab' H.next w u v := by
    intro ho
    rw [Option.map_eq_some_iff] at ho
    obtain ⟨⟨u', t⟩, h1, h2⟩ := ho
    simp only [Prod.mk.injEq] at h2
    obtain ⟨rfl, rfl⟩ := h2
    obtain ⟨gh', K, R⟩ := outT_run M h h1
    exact ⟨gh', K.goes, K.mem, .val _ _ R⟩
  unfold frzSlot at ho
  split at ho
  · rename_i d g off
    split at ho
    · rename_i g' cs hr
      split at ho
      · rename_i hg
        subst hg
        split at ho
        · rename_i us t hu
          split at ho
          · rename_i g'' cs' hr2
            split at ho
            · rename_i hc
              obtain ⟨rfl, hlen⟩ := hc
              simp only [Option.some.injEq, Prod.mk.injEq] at ho
              obtain ⟨rfl, rfl⟩ := ho
              have hT := M.tabR d
              rw [hr] at hT
              obtain ⟨c, ty, h1, h2, h3, h4, h5⟩ := hT
              have hcs : SsRel gh tab H.next w cs c.toList := ⟨by simp [h2], fun i a b ha hb => h3 i a b ha (by simpa using hb)⟩
              obtain ⟨gh1, K, R⟩ := outAll_run M hcs hu
              have hact : (tget t d).active = true := by rw [hr2]; rfl
              have hT1 := K.mem.tabR d
              rw [hr2] at hT1
              obtain ⟨c1, ty1, k1, k2, k3, k4, k5⟩ := hT1
              have hβ : gh1.β d = gh.β d := by rw [K.same.2.1]
              have hce : c1 = c := by rw [hβ, h1] at k1; simp only [Option.some.injEq, Go.Obj.cells.injEq] at k1; exact k1.1.symm
              subst hce
              have U := K.mem.upd (d := d) (tc := .box g'' (us.map .val) true) (b := gh1.β d) (bo := gh1.bo d) (bs := gh1.bs d) (w' := w) (tget_lt hact) (by rw [hr2]; exact .inr rfl) (fun _ _ => ⟨rfl, rfl, rfl⟩) (fun _ _ => rfl) (Nat.le_refl _)
                ⟨rfl, rfl, rfl⟩ (fun d' hd' ha' => K.mem.apart d' d hd' ha' hact) (fun o ho => (K.mem.objApart d o hact ho).symm) (K.mem.own hact) (fun _ _ => rfl)
                (fun T => by
                  refine ⟨c1, ty1, by show w.heap[Vi.upd gh1.β d (gh1.β d) d]? = _; rw [upd_same]; exact k1, by rw [List.length_map, ← hlen]; exact k2, fun i x v' hx hv => ?_, by show E.n0 ≤ Vi.upd gh1.β d (gh1.β d) d ∨ E.L (Vi.upd gh1.β d (gh1.β d) d); rw [upd_same]; exact k4, fun _ => by show gh1.G (Vi.upd gh1.β d (gh1.β d) d) = 0; rw [upd_same]; exact k5 rfl⟩
                  rw [List.getElem?_map, Option.map_eq_some_iff] at hx
                  obtain ⟨y, hy, rfl⟩ := hx
                  exact .val _ _ (T.v (R.rel i y v' hy (by simpa using hv))))
              exact ⟨_, K.goes.trans U.1, U.2, U.1.s (K.goes.s h)⟩
            · simp at ho
          · simp at ho
        · simp at ho
      · simp at ho
    · simp at ho
  · exact plain ho

theorem frzAll_sim {l : List Nat} : ∀ {fr fr' : Fr} {H : Hp} {a : Act} {w : World}, Sim E fr H a w → frzAll l fr = some fr' → Sim E fr' H a w := by
  induction l with
  | nil => intro fr fr' H a w S h; simp only [frzAll, Option.some.injEq] at h; subst h; exact S
  | cons t r ih =>
    intro fr fr' H a w S h
    simp only [frzAll] at h
    split at h
    · rename_i v hv
      split at h
      · rename_i u tab hu
        obtain ⟨gh, M, SS, D⟩ := S
        have hl := SS.len
        have hlt := (List.getElem?_eq_some_iff.1 hv).1
        obtain ⟨x, hx⟩ : ∃ x, a.tmps.toList[t]? = some x := ⟨_, List.getElem?_eq_getElem (by rw [hl]; exact hlt)⟩
        obtain ⟨gh', T, M', R⟩ := frzSlot_run M (SS.rel t v x hv hx) hu
        refine ih ⟨gh', M', ⟨by simpa using hl, fun i p q hp hq => ?_⟩, D⟩ h
        simp only at hp
        rw [List.getElem?_set] at hp
        split at hp
        · rename_i he
          subst he
          simp only [Option.some.injEq] at hp; subst hp
          rw [hx] at hq; simp only [Option.some.injEq] at hq; subst hq
          exact R
        · exact T.s (SS.rel i p q hp hq)
      · simp at h
    · simp at h

theorem execV_run {pol : Pol} {keys : Nat → List Nat} {call : CallV} {dyn : Bool} {k : Nat} (hcall : CallOk P pol call) (hm : P.follows .mixedOrders = true) (hd : DrawnOk P pol keys call) (c : Code) : (dyn = true ∨ staticOk c = true) →
    ∀ {fr fr' : Fr} {H H' : Hp} {ex : VEx} {a : Act} {w : World} {Q : Exit → Act → World → Prop}, execV P pol keys call dyn k c fr H = some (ex, fr', H') → Sim E fr H a w →
      (∀ a' w', Sim E fr' H' a' w' → Q (vex ex) a' w') → c.wp P Q a w := by
  induction c with
  | skip =>
    intro hst fr fr' H H' ex a w Q h S hQ
    simp only [execV, Option.some.injEq, Prod.mk.injEq] at h
    obtain ⟨rfl, rfl, rfl⟩ := h
    exact wp_skip (hQ a w S)
  | seq x y ihx ihy =>
    intro hst fr fr' H H' ex a w Q h S hQ
    simp only [execV] at h
    refine wp_seq ?_
    split at h
    · rename_i fr1 H1 h1
      exact ihx (hst.imp_right fun h => (by simp only [staticOk, Bool.and_eq_true] at h; exact h.1)) h1 S fun a' w' S' => ihy (hst.imp_right fun h => (by simp only [staticOk, Bool.and_eq_true] at h; exact h.2)) h S' hQ
    · rename_i hne
      refine ihx (hst.imp_right fun h => (by simp only [staticOk, Bool.and_eq_true] at h; exact h.1)) h S fun a' w' S' => ?_
      have := hQ a' w' S'
      cases ex with
      | normal => exact absurd h (hne _ _)
      | exit id => exact this
      | ret => exact this
  | region id ops draws =>
    intro hst fr fr' H H' ex a w Q h S hQ
    simp only [execV] at h
    split at h
    · simp at h
    · rename_i hc
      split at h
      case h_2 => simp at h
      rename_i fr1 H1 h1
      rw [Option.map_eq_some_iff] at h
      obtain ⟨fr2, hz, h2⟩ := h
      simp only [Prod.mk.injEq] at h2
      obtain ⟨rfl, rfl, rfl⟩ := h2
      have hQ : ∀ a' w', Sim E fr1 H1 a' w' → Q (vex .normal) a' w' := fun a' w' S' => hQ a' w' (frzAll_sim S' hz)
      cases draws with
      | false => exact wp_region (opsV_run hcall _ (by rw [range_ops]; exact h1) S hQ)
      | true =>
        have hc : edgesOk ops = true ∧ (calmB ops = true ∨ pairsOk ops (feetV P pol keys call ops ops.toList fr H) = true) := by
          rcases hst with rfl | hst
          · have : (edgesOk ops && pairsOk ops (feetV P pol keys call ops ops.toList fr H)) = true := by
              cases hx : edgesOk ops && pairsOk ops (feetV P pol keys call ops ops.toList fr H) with
              | true => rfl
              | false => rw [hx] at hc; simp at hc
            rw [Bool.and_eq_true] at this
            exact ⟨this.1, .inr this.2⟩
          · simp only [staticOk, Bool.not_true, Bool.false_or, Bool.and_eq_true] at hst
            exact ⟨hst.1, .inl hst.2⟩
        refine wp_region_draw fun t => ?_
        rw [hm]
        exact opsV_run hcall _ (hd ops fr _ H _ t hc.1 hc.2 h1) (S.heap rfl ⟨rfl, rfl, rfl⟩) hQ
  | cond c x y ihx ihy =>
    intro hst fr fr' H H' ex a w Q h S hQ
    simp only [execV] at h
    obtain ⟨gh, M, SS, D⟩ := S
    split at h
    · rename_i he
      have := ev_rel SS he
      refine wp_cond_true (?_ : a.eval c = .bool true) (ihx (hst.imp_right fun h => (by simp only [staticOk, Bool.and_eq_true] at h; exact h.1)) h ⟨gh, M, SS, D⟩ hQ)
      generalize a.eval c = v at this
      have := this.of_val
      cases this; rfl
    · rename_i he
      have := ev_rel SS he
      refine wp_cond_false (?_ : a.eval c = .bool false) (ihy (hst.imp_right fun h => (by simp only [staticOk, Bool.and_eq_true] at h; exact h.2)) h ⟨gh, M, SS, D⟩ hQ)
      generalize a.eval c = v at this
      have := this.of_val
      cases this; rfl
    · simp at h
  | block id c ih =>
    intro hst fr fr' H H' ex a w Q h S hQ
    simp only [execV] at h
    refine wp_block ?_
    split at h
    · rename_i id' fr1 H1 h1
      refine ih (hst.imp_right fun h => h) h1 S fun a' w' S' => ?_
      show Exit.inBlock id Q (.exit id') a' w'
      unfold Exit.inBlock
      split at h
      · rename_i he
        simp only [Option.some.injEq, Prod.mk.injEq] at h
        obtain ⟨rfl, rfl, rfl⟩ := h
        simp only [he, if_true]
        exact hQ a' w' S'
      · rename_i he
        simp only [Option.some.injEq, Prod.mk.injEq] at h
        obtain ⟨rfl, rfl, rfl⟩ := h
        simp only [he, if_false]
        exact hQ a' w' S'
    · rename_i hne
      refine ih (hst.imp_right fun h => h) h S fun a' w' S' => ?_
      have := hQ a' w' S'
      cases ex with
      | normal => exact this
      | exit id' => exact absurd h (hne _ _ _)
      | ret => exact this
  | loop c ih =>
    intro hst fr fr' H H' ex a w Q h S hQ
    simp only [execV] at h
    have key : ∀ (n : Nat) {fr fr' : Fr} {H H' : Hp} {ex : VEx} {a : Act} {w : World}, iterV (fun fr H => execV P pol keys call dyn k c fr H) n fr H = some (ex, fr', H') → Sim E fr H a w →
        (∀ a' w', Sim E fr' H' a' w' → Q (vex ex) a' w') → Code.rounds P c Q n a w := by
      intro n
      induction n with
      | zero => intro fr fr' H H' ex a w h; simp [iterV] at h
      | succ n ihn =>
        intro fr fr' H H' ex a w h S hQ
        simp only [iterV] at h
        rw [rounds_succ]
        split at h
        · rename_i fr1 H1 h1
          exact ih (hst.imp_right fun h => h) h1 S fun a' w' S' => ihn h S' hQ
        · rename_i hne
          refine ih (hst.imp_right fun h => h) h S fun a' w' S' => ?_
          have := hQ a' w' S'
          cases ex with
          | normal => exact absurd h (hne _ _)
          | exit id => exact this
          | ret => exact this
    exact wp_loop_rounds k (key k h S hQ)
  | exit id =>
    intro hst fr fr' H H' ex a w Q h S hQ
    simp only [execV, Option.some.injEq, Prod.mk.injEq] at h
    obtain ⟨rfl, rfl, rfl⟩ := h
    exact wp_exit (hQ a w S)
  | ret =>
    intro hst fr fr' H H' ex a w Q h S hQ
    simp only [execV, Option.some.injEq, Prod.mk.injEq] at h
    obtain ⟨rfl, rfl, rfl⟩ := h
    exact wp_ret (hQ a w S)
  | label l =>
    intro hst fr fr' H H' ex a w Q h S hQ
    simp only [execV, Option.some.injEq, Prod.mk.injEq] at h
    obtain ⟨rfl, rfl, rfl⟩ := h
    exact wp_label (hQ a w S)
  | scope c ih =>
    intro hst fr fr' H H' ex a w Q h S hQ
    simp only [execV] at h
    refine wp_scope_straight (ih (hst.imp_right fun h => h) h S fun a' w' S' => ?_)
    have := hQ a' w' S'
    cases ex <;> exact this
  | _ =>
    intro hst fr fr' H H' ex a w Q h S hQ
    simp [execV] at h

end
end Go.Vi

/-
  What a call hands back.
-/
namespace Go.Vi
set_option linter.unusedVariables false
set_option linter.unusedSimpArgs false

section
variable {P : Program} {E : En} {gh : Gh} {tab : List TC} {H : Hp} {w : World}

theorem retCell_run (M : Mem E gh tab H w) {x : SV} {v : Value} {r : RV} {tab' : List TC} (h : SRel gh tab H.next w x v) (ho : retCell tab x = some (r, tab')) :
    ∃ gh' ks p, Given E H w gh tab gh' tab' ks ∧ ARel gh' H.next w r v p ∧ p.toList.map (·.1) = ks.map gh.β ∧ ∀ cs off, r ≠ .box cs off := by
  have plain : (outT tab x).map (fun (u, t) => ((RV.val u, t) : RV × List TC)) = some (r, tab') →
      ∃ gh' ks p, Given E H w gh tab gh' tab' ks ∧ ARel gh' H.next w r v p ∧ p.toList.map (·.1) = ks.map gh.β ∧ ∀ cs off, r ≠ .box cs off := by
    intro ho
    rw [Option.map_eq_some_iff] at ho
    obtain ⟨⟨u, t⟩, hx, he⟩ := ho
    simp only [Prod.mk.injEq] at he
    obtain ⟨rfl, rfl⟩ := he
    obtain ⟨gh', K, hr⟩ := outT_run M h hx
    exact ⟨gh', [], none, Given.of_marks K, .val _ _ hr, rfl, by simp⟩
  unfold retCell at ho
  split at ho
  · rename_i es
    simp only [Option.some.injEq, Prod.mk.injEq] at ho
    obtain ⟨rfl, rfl⟩ := ho
    cases h with
    | full _ a n h => exact ⟨gh, [], none, Given.of_marks (Marks.refl M), .full _ _ _ h, rfl, by simp⟩
  · rename_i d g off n s
    split at ho
    · rename_i g' es sz hr
      split at ho
      · rename_i hc
        simp only [Option.some.injEq, Prod.mk.injEq] at ho
        obtain ⟨rfl, rfl⟩ := ho
        have ha : outArg 1 tab (.own d g off n s) = some (.own ((es.drop off).take n) sz, tab.set d (.gone g), []) := by
          simp only [outArg, hr]
          rw [if_pos hc]
        obtain ⟨gh', hd, K, R, q1, q2, q3, q4⟩ := outArg_run M h ha
        have hb := R.arel
        cases R with
        | no _ _ h' => cases h'
        | taken _ _ d' o h' =>
          refine ⟨gh', _, _, K, h', ?_, by simp⟩
          simp [Hand.tk, K.same.2.1]
        | row _ _ _ _ _ _ _ _ => simp [Hand.ln] at q1
      · simp at ho
    · exact plain ho
  · exact plain ho

theorem retCells_run : ∀ {l : List SV} {gh : Gh} {tab : List TC} {vs : List Value} {rs : List RV} {tab' : List TC}, Mem E gh tab H w → SsRel gh tab H.next w l vs → retCells tab l = some (rs, tab') →
    ∃ gh' ks pl, Given E H w gh tab gh' tab' ks ∧ CsRel gh' H.next w rs vs pl ∧ pl.map (·.1) = ks.map gh.β := by
  intro l
  induction l with
  | nil =>
    intro gh tab vs rs tab' M h ho
    simp [retCells] at ho
    obtain ⟨rfl, rfl⟩ := ho
    have hl := h.len
    cases vs with
    | nil => exact ⟨gh, [], [], Given.of_marks (Marks.refl M), .nil, rfl⟩
    | cons v vs => simp at hl
  | cons x l ih =>
    intro gh tab vs rs tab' M h ho
    cases vs with
    | nil => have := h.len; simp at this
    | cons v vs =>
      simp only [retCells] at ho
      split at ho
      · rename_i u t1 h1
        rw [Option.map_eq_some_iff] at ho
        obtain ⟨⟨us, t2⟩, h2, he⟩ := ho
        simp only [Prod.mk.injEq] at he
        obtain ⟨rfl, rfl⟩ := he
        obtain ⟨gh1, k1, p, K1, a1, e1, b1⟩ := retCell_run M (h.rel 0 x v rfl rfl) h1
        obtain ⟨gh2, k2, pl, K2, a2, e2⟩ := ih K1.mem ⟨by have := h.len; simpa using this, fun i a b ha hb => K1.goes.s (h.rel (i + 1) a b ha hb)⟩ h2
        refine ⟨gh2, k1 ++ k2, p.toList ++ pl, Given.trans M K1 K2, .cons _ _ _ _ _ _ (a1.goes K2.goes fun _ _ _ _ => rfl) b1 a2, ?_⟩
        rw [List.map_append, List.map_append, e1, e2, K1.same.2.1]
      · simp at ho

theorem retV_run (M : Mem E gh tab H w) {x : SV} {v : Value} {r : RV} {tab' : List TC} (h : SRel gh tab H.next w x v) (ho : retV tab x = some (r, tab')) :
    ∃ gh' ks pl, Given E H w gh tab gh' tab' ks ∧ RRel gh' H.next w r v pl ∧ pl.map (·.1) = ks.map gh.β := by
  unfold retV at ho
  split at ho
  · rename_i cs
    rw [Option.map_eq_some_iff] at ho
    obtain ⟨⟨us, t2⟩, h2, he⟩ := ho
    simp only [Prod.mk.injEq] at he
    obtain ⟨rfl, rfl⟩ := he
    cases h with
    | st _ l h1 h =>
      obtain ⟨gh', ks, pl, K, a, e⟩ := retCells_run M ⟨h1, h⟩ h2
      exact ⟨gh', ks, pl, K, .st _ _ _ a, e⟩
  · obtain ⟨gh', ks, p, K, a, e, b⟩ := retCell_run M h ho
    exact ⟨gh', ks, p.toList, K, .cell _ _ _ a b, e⟩

theorem retsV_run : ∀ {l : List SV} {gh : Gh} {tab : List TC} {vs : List Value} {rs : List RV} {tab' : List TC}, Mem E gh tab H w → SsRel gh tab H.next w l vs → retsV tab l = some (rs, tab') →
    ∃ gh' ks pl, Given E H w gh tab gh' tab' ks ∧ RsRel gh' H.next w rs vs pl ∧ pl.map (·.1) = ks.map gh.β := by
  intro l
  induction l with
  | nil =>
    intro gh tab vs rs tab' M h ho
    simp [retsV] at ho
    obtain ⟨rfl, rfl⟩ := ho
    have hl := h.len
    cases vs with
    | nil => exact ⟨gh, [], [], Given.of_marks (Marks.refl M), .nil, rfl⟩
    | cons v vs => simp at hl
  | cons x l ih =>
    intro gh tab vs rs tab' M h ho
    cases vs with
    | nil => have := h.len; simp at this
    | cons v vs =>
      simp only [retsV] at ho
      split at ho
      · rename_i u t1 h1
        rw [Option.map_eq_some_iff] at ho
        obtain ⟨⟨us, t2⟩, h2, he⟩ := ho
        simp only [Prod.mk.injEq] at he
        obtain ⟨rfl, rfl⟩ := he
        obtain ⟨gh1, k1, p, K1, a1, e1⟩ := retV_run M (h.rel 0 x v rfl rfl) h1
        obtain ⟨gh2, k2, pl, K2, a2, e2⟩ := ih K1.mem ⟨by have := h.len; simpa using this, fun i a b ha hb => K1.goes.s (h.rel (i + 1) a b ha hb)⟩ h2
        refine ⟨gh2, k1 ++ k2, p ++ pl, Given.trans M K1 K2, .cons _ _ _ _ _ _ (a1.goes K2.goes) a2, ?_⟩
        rw [List.map_append, List.map_append, e1, e2, K1.same.2.1]
      · simp at ho

/-- results that nobody writes any more -/
theorem frz_run {l : List SV} {vs : List Value} {us : List VV} {tab' : List TC} (M : Mem E gh tab H w) (h : SsRel gh tab H.next w l vs) (ho : outAll tab l = some (us, tab')) :
    ∃ gh' ks pl, Given E H w gh tab gh' tab' ks ∧ RsRel gh' H.next w (us.map .val) vs pl ∧ pl.map (·.1) = ks.map gh.β := by
  obtain ⟨gh', K, R⟩ := outAll_run M h ho
  have key : ∀ (us : List VV) (vs : List Value), us.length = vs.length → (∀ (i : Nat) (u : VV) (v : Value), us[i]? = some u → vs[i]? = some v → VR gh' H.next w u v) → RsRel gh' H.next w (us.map .val) vs [] := by
    intro us
    induction us with
    | nil => intro vs hl _; cases vs with
      | nil => exact .nil
      | cons _ _ => simp at hl
    | cons u us ih =>
      intro vs hl hr
      cases vs with
      | nil => simp at hl
      | cons v vs =>
        exact RsRel.cons (.val u) v [] (us.map .val) vs [] (.cell _ _ none (.val _ _ (hr 0 u v rfl rfl)) (by simp)) (ih vs (by simpa using hl) fun i a b ha hb => hr (i + 1) a b ha hb)
  exact ⟨gh', [], [], Given.of_marks K, key us vs (by have := R.len; simp [this]) (fun i u v hu hv => R.rel i u v hu hv), rfl⟩

/-- how a result variable is read -/
def resM (tmps : Array Value) : ResultVar → Sem Value
  | .tmp t => pure (tmps.getD t undef)
  | .cell c t => do loadVar t (← asAddr (tmps.getD c undef))

/-- a result variable -/
theorem resultV_run (M : Mem E gh tab H w) {slots : List SV} {a : Act} (hs : SsRel gh tab H.next w slots a.tmps.toList) {r : ResultVar} {s : SV} (h : resultV P ⟨slots, tab⟩ r = some s) :
    ∃ v, (resM a.tmps r).run P w = .ok v w ∧ SRel gh tab H.next w s v := by
  have get : ∀ (t : Nat) (s : SV), slots[t]? = some s → SRel gh tab H.next w s (a.tmps.getD t undef) := fun t s ht => by
    have hlt := (List.getElem?_eq_some_iff.1 ht).1
    have hl := hs.len
    simp at hl
    exact hs.rel t s _ ht (by simp [hl, hlt])
  cases r with
  | tmp t => exact ⟨_, rfl, get t s h⟩
  | cell c t =>
    simp only [resultV] at h
    split at h
    · rename_i d g off hx
      split at h
      · rename_i g' cs wr hr
        split at h
        · rename_i hg
          subst hg
          obtain ⟨cc, ty, h1, h2, h3, _⟩ := box_cells M hr
          have hv := get c _ hx
          generalize hvv : a.tmps.getD c undef = v at hv
          cases hv with
          | loc _ _ _ b p hg hh =>
            obtain ⟨rfl, rfl⟩ := hh cs wr hr
            obtain ⟨r, e1, e2⟩ := loadS_run (P := P) (gh := gh) (tab := tab) (nx := H.next) (w := w) (b := gh.β d) (o := 0) (fun j => cc.getD j undef)
              (fun j y hj => by rw [Nat.zero_add, cellAt_of h1]; exact h3 j y hj) h
            rw [Nat.zero_add] at e1
            refine ⟨r, ?_, e2⟩
            simp only [resM, hvv, asAddr, Sem.run_bind, Sem.run_pure, Result.andThen_ok, e1]
        · simp at h
      · simp at h
    · simp at h

theorem mapM_run {α : Type} (P : Program) (w : World) (f : α → Sem Value) : ∀ (l : List α) (vs : List Value), vs.length = l.length → (∀ (i : Nat) (x : α) (v : Value), l[i]? = some x → vs[i]? = some v → (f x).run P w = .ok v w) →
    (l.mapM f).run P w = .ok vs w
  | [], [], _, _ => rfl
  | [], v :: vs, h, _ => by simp at h
  | x :: l, [], h, _ => by simp at h
  | x :: l, v :: vs, h, hf => by
    rw [List.mapM_cons]
    have h0 := hf 0 x v rfl rfl
    have h1 := mapM_run P w f l vs (by simpa using h) fun i x v hx hv => hf (i + 1) x v hx hv
    simp only [Sem.run_bind, h0, Result.andThen_ok, h1, Sem.run_pure]

theorem results_run (M : Mem E gh tab H w) {slots : List SV} {a : Act} (hs : SsRel gh tab H.next w slots a.tmps.toList) {fn : Func} {l : List SV} (h : fn.results.toList.mapM (resultV P ⟨slots, tab⟩) = some l) :
    ∃ vl, (results fn a.tmps).run P w = .ok (retVal vl) w ∧ SsRel gh tab H.next w l vl := by
  obtain ⟨m1, m2⟩ := mapM_some h
  have : ∀ (n : Nat) (L : List ResultVar) (l : List SV), L.length = n → L.mapM (resultV P ⟨slots, tab⟩) = some l → ∃ vl, (L.mapM (resM a.tmps)).run P w = .ok vl w ∧ SsRel gh tab H.next w l vl := by
    intro n
    induction n with
    | zero =>
      intro L l hl h
      cases L with
      | nil => simp at h; subst h; exact ⟨[], rfl, rfl, fun i x v hx => by simp at hx⟩
      | cons _ _ => simp at hl
    | succ n ih =>
      intro L l hl h
      cases L with
      | nil => simp at hl
      | cons r L =>
        rw [List.mapM_cons] at h
        cases hr : resultV P ⟨slots, tab⟩ r with
        | none => simp [hr] at h
        | some s =>
          cases hL : L.mapM (resultV P ⟨slots, tab⟩) with
          | none => simp [hr, hL] at h
          | some l' =>
            simp [hr, hL] at h
            subst h
            obtain ⟨v, e1, e2⟩ := resultV_run M hs hr
            obtain ⟨vl, f1, f2⟩ := ih L l' (by simpa using hl) hL
            refine ⟨v :: vl, ?_, by simp [f2.len], fun i x u hx hu => ?_⟩
            · rw [List.mapM_cons]
              simp only [Sem.run_bind, e1, Result.andThen_ok, f1, Sem.run_pure]
            · cases i with
              | zero => simp at hx hu; subst hx; subst hu; exact e2
              | succ i => exact f2.rel i x u (by simpa using hx) (by simpa using hu)
  obtain ⟨vl, e1, e2⟩ := this _ _ _ rfl h
  refine ⟨vl, ?_, e2⟩
  have hm : (fn.results.mapM (resM a.tmps)).run P w = .ok vl.toArray w := by
    rw [← Array.toArray_toList (xs := fn.results), List.mapM_toArray]
    simp only [map_eq_pure_bind, Sem.run_bind, e1, Result.andThen_ok, Sem.run_pure]
  have he : results fn a.tmps = (fn.results.mapM (resM a.tmps)) >>= fun vs => pure (if h : vs.size = 1 then vs[0] else .tuple vs) := by
    unfold results
    congr 1
  rw [he]
  simp only [Sem.run_bind, hm, Result.andThen_ok, Sem.run_pure]
  congr 1
  cases vl with
  | nil => rfl
  | cons v vl =>
    cases vl with
    | nil => rfl
    | cons u vl => rfl

end
end Go.Vi
