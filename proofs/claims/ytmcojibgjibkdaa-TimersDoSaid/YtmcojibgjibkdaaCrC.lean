/-
  A row of timers among the objects: its list, its map of places.
-/
import Derived.Test.YtmcojibgjibkdaaV4
import Derived.Test.YtmcojibgjibkdaaCrA
namespace Go.Vi.CYtmcojibgjibkdaa
open Go.Vi Go.Proofs Go.Proofs.Ytmcojibgjibkdaa
set_option linter.unusedVariables false
set_option maxHeartbeats 4000000
set_option maxRecDepth 100000
set_option linter.unusedSimpArgs false

/-- an entry of the map: a key, its place, its birth -/
abbrev En := Int × Nat × Nat
def enV (e : En) : VV × VV × Nat := (iv e.1, iv (e.2.1 : Nat), e.2.2)
def Apart (ms : List En) : Prop := ms.Pairwise fun e f => e.1 ≠ f.1 ∧ e.2.2 ≠ f.2.2
/-- the map tells of every timer where it stands -/
structure MapOk (ms : List En) (cl : Nat) (l : List Tm) : Prop where
  pw : Apart ms
  lt : ∀ e ∈ ms, e.2.2 < cl
  to : ∀ e ∈ ms, ∃ t, l[e.2.1]? = some t ∧ t.key = e.1
  of : ∀ (i : Nat) t, l[i]? = some t → ∃ b, (t.key, i, b) ∈ ms

theorem Apart.same {ms : List En} (h : Apart ms) {m m' : Nat} {e f : En} (he : ms[m]? = some e) (hf : ms[m']? = some f) (hk : e.1 = f.1 ∨ e.2.2 = f.2.2) : m = m' := by
  obtain ⟨h1, rfl⟩ := List.getElem?_eq_some_iff.1 he
  obtain ⟨h2, rfl⟩ := List.getElem?_eq_some_iff.1 hf
  rcases Nat.lt_trichotomy m m' with h3 | h3 | h3
  · have := List.pairwise_iff_getElem.1 h m m' h1 h2 h3
    rcases hk with hk | hk
    · exact absurd hk this.1
    · exact absurd hk this.2
  · exact h3
  · have := List.pairwise_iff_getElem.1 h m' m h2 h1 h3
    rcases hk with hk | hk
    · exact absurd hk.symm this.1
    · exact absurd hk.symm this.2
theorem Apart.find {ms : List En} (h : Apart ms) {m : Nat} {e : En} (he : ms[m]? = some e) :
    findV (.int .i64) (iv e.1) (ms.map enV) 0 = some (some (m, iv (e.2.1 : Nat))) ∧ (ms.map enV).findIdx? (fun f => (f.2.2 : Int) == ((e.2.2 : Nat) : Int)) = some m := by
  constructor
  · have := findV_found (kd := .int .i64) (k := iv e.1) (es := ms.map enV) (i := 0) (m := m) (e := enV e) (fun j hj f hf => by
      rw [List.getElem?_map] at hf
      obtain ⟨f0, hf0, rfl⟩ := Option.map_eq_some_iff.1 hf
      refine ⟨rfl, ?_⟩
      show (e.1 == f0.1) = false
      rw [beq_eq_false_iff_ne]
      intro hk
      have := h.same he hf0 (.inl hk)
      omega) (by rw [List.getElem?_map, he]; rfl) rfl (by show (e.1 == e.1) = true; exact beq_self_eq_true _)
    rw [Nat.zero_add] at this
    exact this
  · rw [List.findIdx?_eq_some_iff_getElem]
    obtain ⟨h1, rfl⟩ := List.getElem?_eq_some_iff.1 he
    refine ⟨by rw [List.length_map]; exact h1, ?_, fun j hj => ?_⟩
    · rw [List.getElem_map]
      show (((ms[m]).2.2 : Int) == ((ms[m]).2.2 : Int)) = true
      exact beq_self_eq_true _
    · rw [List.getElem_map]
      show ¬ (((ms[j]).2.2 : Int) == ((ms[m]).2.2 : Int)) = true
      intro hk
      have hk := Int.ofNat.inj (eq_of_beq hk)
      have := h.same (List.getElem?_eq_getElem (by omega)) (List.getElem?_eq_getElem h1) (.inr hk)
      omega
theorem find_not {ms : List En} {k : Int} (h : ∀ e ∈ ms, e.1 ≠ k) : findV (.int .i64) (iv k) (ms.map enV) 0 = some none := by
  refine findV_none fun f hf => ?_
  obtain ⟨e, he, rfl⟩ := List.mem_map.1 hf
  refine ⟨rfl, ?_⟩
  show (k == e.1) = false
  rw [beq_eq_false_iff_ne]
  exact fun hk => h e he hk.symm
/-- a key has another place -/
def upd (ms : List En) (k : Int) (p : Nat) : List En := ms.map fun e => if e.1 = k then (e.1, p, e.2.2) else e
theorem upd_at {ms : List En} {k : Int} {p m : Nat} : (upd ms k p)[m]? = ms[m]?.map fun e => if e.1 = k then (e.1, p, e.2.2) else e := by
  unfold upd; rw [List.getElem?_map]
theorem upd_modify {ms : List En} (h : Apart ms) {m p : Nat} {e : En} (he : ms[m]? = some e) : (ms.map enV).modify m (fun f => (f.1, iv (p : Nat), f.2.2)) = (upd ms e.1 p).map enV := by
  apply List.ext_getElem?
  intro j
  rw [List.getElem?_modify, List.getElem?_map, List.getElem?_map, upd_at]
  cases hj : ms[j]? with
  | none => simp
  | some f =>
    simp only [Option.map_some, Option.map_eq_map]
    by_cases hm : m = j
    · subst hm
      rw [he] at hj; cases hj
      rw [if_pos rfl, if_pos rfl]; rfl
    · rw [if_neg hm, if_neg (fun hk => hm (h.same he hj (.inl hk.symm)))]
theorem same_modify {ms : List En} {m : Nat} {e : En} (he : ms[m]? = some e) : (ms.map enV).modify m (fun f => (iv e.1, f.2.1, f.2.2)) = ms.map enV := by
  apply List.ext_getElem?
  intro j
  rw [List.getElem?_modify, List.getElem?_map]
  cases hj : ms[j]? with
  | none => simp
  | some f =>
    simp only [Option.map_some, Option.map_eq_map]
    by_cases hm : m = j
    · subst hm
      rw [he] at hj; cases hj
      rw [if_pos rfl]; rfl
    · rw [if_neg hm]
theorem upd_apart {ms : List En} (h : Apart ms) {k : Int} {p : Nat} : Apart (upd ms k p) := by
  unfold upd Apart
  rw [List.pairwise_map]
  refine List.Pairwise.imp (fun {a b} hab => ?_) h
  constructor
  · split <;> split <;> exact hab.1
  · split <;> split <;> exact hab.2
theorem MapOk.at {ms : List En} {cl : Nat} {l : List Tm} (h : MapOk ms cl l) {i : Nat} {t : Tm} (ht : l[i]? = some t) : ∃ (m b : Nat), ms[m]? = some (t.key, i, b) := by
  obtain ⟨b, hb⟩ := h.of i t ht
  obtain ⟨m, hm⟩ := List.getElem?_of_mem hb
  exact ⟨m, b, hm⟩
theorem MapOk.inj {ms : List En} {cl : Nat} {l : List Tm} (h : MapOk ms cl l) {i j : Nat} {a b : Tm} (ha : l[i]? = some a) (hb : l[j]? = some b) (hk : a.key = b.key) : i = j := by
  obtain ⟨m, c, hm⟩ := h.at ha
  obtain ⟨m', c', hm'⟩ := h.at hb
  have := h.pw.same hm hm' (.inl hk)
  subst this
  rw [hm] at hm'
  exact congrArg (fun e : En => e.2.1) (Option.some.inj hm')
theorem MapOk.swap {ms : List En} {cl : Nat} {l : List Tm} (h : MapOk ms cl l) {i j : Nat} {a b : Tm} (ha : l[i]? = some a) (hb : l[j]? = some b) : MapOk (upd (upd ms b.key i) a.key j) cl ((l.set i b).set j a) := by
  have hli := (List.getElem?_eq_some_iff.1 ha).1
  have hlj := (List.getElem?_eq_some_iff.1 hb).1
  have hset : ∀ q : Nat, ((l.set i b).set j a)[q]? = if j = q then some a else if i = q then some b else l[q]? := by
    intro q
    rw [List.getElem?_set, List.getElem?_set, List.length_set]
    by_cases h1 : j = q
    · subst h1; simp [hlj]
    · simp only [if_neg h1]
      by_cases h2 : i = q
      · subst h2; simp [hli]
      · simp [if_neg h2]
  have hmem : ∀ e' ∈ upd (upd ms b.key i) a.key j, ∃ e ∈ ms, e'.1 = e.1 ∧ e'.2.2 = e.2.2 ∧ e'.2.1 = (if e.1 = a.key then j else if e.1 = b.key then i else e.2.1) := by
    intro e' he'
    unfold upd at he'
    rw [List.map_map] at he'
    obtain ⟨e, he, rfl⟩ := List.mem_map.1 he'
    refine ⟨e, he, ?_⟩
    simp only [Function.comp]
    by_cases h1 : e.1 = b.key <;> by_cases h2 : e.1 = a.key <;> simp [h1, h2] <;> simp_all
  have hmem2 : ∀ e ∈ ms, (e.1, (if e.1 = a.key then j else if e.1 = b.key then i else e.2.1), e.2.2) ∈ upd (upd ms b.key i) a.key j := by
    intro e he
    unfold upd
    rw [List.map_map]
    refine List.mem_map.2 ⟨e, he, ?_⟩
    simp only [Function.comp]
    by_cases h1 : e.1 = b.key <;> by_cases h2 : e.1 = a.key <;> simp [h1, h2] <;> simp_all
  refine ⟨upd_apart (upd_apart h.pw), fun e' he' => ?_, fun e' he' => ?_, fun q t ht => ?_⟩
  · obtain ⟨e, he, _, h2, _⟩ := hmem e' he'
    rw [h2]; exact h.lt e he
  · obtain ⟨e, he, h1, _, h3⟩ := hmem e' he'
    obtain ⟨t, ht, hk⟩ := h.to e he
    rw [h1, h3, hset]
    by_cases c1 : e.1 = a.key
    · rw [if_pos c1, if_pos rfl]; exact ⟨a, rfl, c1.symm⟩
    · rw [if_neg c1]
      by_cases c2 : e.1 = b.key
      · rw [if_pos c2]
        have hij : j ≠ i := by
          intro hij; subst hij
          rw [ha] at hb; cases hb; exact c1 c2
        rw [if_neg hij, if_pos rfl]; exact ⟨b, rfl, c2.symm⟩
      · rw [if_neg c2]
        have n1 : j ≠ e.2.1 := fun hh => by rw [← hh, hb] at ht; cases ht; exact c2 hk.symm
        have n2 : i ≠ e.2.1 := fun hh => by rw [← hh, ha] at ht; cases ht; exact c1 hk.symm
        rw [if_neg n1, if_neg n2]; exact ⟨t, ht, hk⟩
  · rw [hset] at ht
    by_cases c1 : j = q
    · rw [if_pos c1] at ht; cases ht; subst c1
      obtain ⟨c, hc⟩ := h.of i a ha
      have := hmem2 _ hc
      simp only [if_true] at this
      exact ⟨c, this⟩
    · rw [if_neg c1] at ht
      by_cases c2 : i = q
      · rw [if_pos c2] at ht; cases ht; subst c2
        obtain ⟨c, hc⟩ := h.of j b hb
        have := hmem2 _ hc
        have hne : b.key ≠ a.key := fun hk => c1 (h.inj hb ha hk)
        simp only [if_neg hne, if_true] at this
        exact ⟨c, this⟩
      · rw [if_neg c2] at ht
        obtain ⟨c, hc⟩ := h.of q t ht
        have := hmem2 _ hc
        have n1 : t.key ≠ a.key := fun hk => c2 (h.inj ht ha hk).symm
        have n2 : t.key ≠ b.key := fun hk => c1 (h.inj ht hb hk).symm
        simp only [if_neg n1, if_neg n2] at this
        exact ⟨c, this⟩
theorem MapOk.push {ms : List En} {cl : Nat} {l : List Tm} (h : MapOk ms cl l) {t : Tm} (ht : ∀ z ∈ l, z.key ≠ t.key) : MapOk (ms ++ [(t.key, l.length, cl)]) (cl + 1) (l ++ [t]) := by
  have hms : ∀ e ∈ ms, e.1 ≠ t.key := fun e he hk => by
    obtain ⟨z, hz, hzk⟩ := h.to e he
    exact ht z (List.mem_of_getElem? hz) (hzk.trans hk)
  refine ⟨?_, fun e he => ?_, fun e he => ?_, fun q z hz => ?_⟩
  · unfold Apart
    rw [List.pairwise_append]
    refine ⟨h.pw, List.pairwise_singleton _ _, fun e he f hf => ?_⟩
    rw [List.mem_singleton] at hf; subst hf
    exact ⟨hms e he, by have := h.lt e he; show e.2.2 ≠ cl; omega⟩
  · rcases List.mem_append.1 he with he | he
    · have := h.lt e he; omega
    · rw [List.mem_singleton] at he; subst he; show cl < cl + 1; omega
  · rcases List.mem_append.1 he with he | he
    · obtain ⟨z, hz, hk⟩ := h.to e he
      exact ⟨z, by rw [List.getElem?_append_left (List.getElem?_eq_some_iff.1 hz).1]; exact hz, hk⟩
    · rw [List.mem_singleton] at he; subst he
      exact ⟨t, by simp, rfl⟩
  · by_cases hq : q < l.length
    · rw [List.getElem?_append_left hq] at hz
      obtain ⟨b, hb⟩ := h.of q z hz
      exact ⟨b, List.mem_append.2 (.inl hb)⟩
    · rw [List.getElem?_append_right (by omega)] at hz
      have : q = l.length := by
        have := (List.getElem?_eq_some_iff.1 hz).1
        simp at this; omega
      subst this
      simp at hz; subst hz
      exact ⟨cl, List.mem_append.2 (.inr (List.mem_singleton.2 rfl))⟩
theorem MapOk.pop {ms : List En} {cl : Nat} {l : List Tm} {t : Tm} (h : MapOk ms cl (l ++ [t])) : ∃ (m b : Nat), ms[m]? = some (t.key, l.length, b) ∧ MapOk (ms.eraseIdx m) cl l := by
  obtain ⟨m, b, hm⟩ := h.at (i := l.length) (t := t) (by simp)
  have hsub : ∀ e ∈ ms.eraseIdx m, e ∈ ms ∧ e.1 ≠ t.key := by
    intro e he
    have he2 : e ∈ ms := List.mem_of_mem_eraseIdx he
    refine ⟨he2, fun hk => ?_⟩
    obtain ⟨q, hq⟩ := List.getElem?_of_mem he
    rw [List.getElem?_eraseIdx] at hq
    split at hq
    · have := h.pw.same hq hm (.inl hk); omega
    · have := h.pw.same hq hm (.inl hk); omega
  refine ⟨m, b, hm, List.Pairwise.sublist (List.eraseIdx_sublist ms m) h.pw, fun e he => h.lt e (hsub e he).1, fun e he => ?_, fun q z hz => ?_⟩
  · obtain ⟨h1, h2⟩ := hsub e he
    obtain ⟨z, hz, hk⟩ := h.to e h1
    have hlt : e.2.1 < l.length := by
      have h3 := (List.getElem?_eq_some_iff.1 hz).1
      rw [List.length_append] at h3; simp at h3
      rcases Nat.lt_or_ge e.2.1 l.length with h4 | h4
      · exact h4
      · have : e.2.1 = l.length := by omega
        rw [this] at hz; simp at hz; subst hz; exact absurd hk.symm h2
    rw [List.getElem?_append_left hlt] at hz
    exact ⟨z, hz, hk⟩
  · have hq := (List.getElem?_eq_some_iff.1 hz).1
    have hz' : (l ++ [t])[q]? = some z := by rw [List.getElem?_append_left hq]; exact hz
    obtain ⟨c, hc⟩ := h.of q z hz'
    obtain ⟨p, hp⟩ := List.getElem?_of_mem hc
    refine ⟨c, ?_⟩
    have hpm : p ≠ m := by
      intro hpm; subst hpm
      rw [hm] at hp
      have := congrArg (fun e : En => e.2.1) (Option.some.inj hp)
      simp only at this; omega
    rcases Nat.lt_or_ge p m with h3 | h3
    · exact List.mem_of_getElem? (i := p) (by rw [List.getElem?_eraseIdx, if_pos h3]; exact hp)
    · refine List.mem_of_getElem? (i := p - 1) ?_
      rw [List.getElem?_eraseIdx, if_neg (by omega), show p - 1 + 1 = p by omega]; exact hp
theorem MapOk.setAt {ms : List En} {cl : Nat} {l : List Tm} (h : MapOk ms cl l) {i : Nat} {t t' : Tm} (ht : l[i]? = some t) (hk : t'.key = t.key) : MapOk ms cl (l.set i t') := by
  have hl := (List.getElem?_eq_some_iff.1 ht).1
  have hset : ∀ q : Nat, (l.set i t')[q]? = if i = q then some t' else l[q]? := by
    intro q
    rw [List.getElem?_set]
    by_cases h1 : i = q
    · subst h1; simp [hl]
    · simp [if_neg h1]
  refine ⟨h.pw, h.lt, fun e he => ?_, fun q z hz => ?_⟩
  · obtain ⟨z, hz, hzk⟩ := h.to e he
    rw [hset]
    by_cases c : i = e.2.1
    · rw [if_pos c]; subst c; rw [ht] at hz; cases hz; exact ⟨t', rfl, hk.trans hzk⟩
    · rw [if_neg c]; exact ⟨z, hz, hzk⟩
  · rw [hset] at hz
    by_cases c : i = q
    · rw [if_pos c] at hz; cases hz; subst c; rw [hk]; exact h.of i t ht
    · rw [if_neg c] at hz; exact h.of q z hz

/-! objects -/
theorem set_eq {H : Hp} {o : Nat} {x : Option Obj} : (H.set o x).objs o = x := if_pos rfl
theorem set_ne {H : Hp} {o q : Nat} {x : Option Obj} (h : q ≠ o) : (H.set o x).objs q = H.objs q := if_neg h
theorem set_next {H : Hp} {o : Nat} {x : Option Obj} : (H.set o x).next = H.next := rfl
theorem put_eq {H : Hp} {x : Obj} : (H.put x).objs H.next = some x := if_pos rfl
theorem put_ne {H : Hp} {q : Nat} {x : Obj} (h : q ≠ H.next) : (H.put x).objs q = H.objs q := if_neg h
theorem put_next {H : Hp} {x : Obj} : (H.put x).next = H.next + 1 := rfl
theorem set_same {H : Hp} {o : Nat} {x : Option Obj} (h : H.objs o = x) : H.set o x = H := by
  subst h
  unfold Hp.set
  have : (fun i => if i = o then H.objs o else H.objs i) = H.objs := by
    funext i; by_cases c : i = o
    · subst c; exact if_pos rfl
    · exact if_neg c
  rw [this]

/-- a row: its list (an object), its map -/
structure RowAt (H : Hp) (o ol om : Nat) (l tl : List Tm) (ms : List En) (cl : Nat) : Prop where
  row : H.objs o = some (.cells [.row ol 0 l.length 2, .map (some om)])
  lst : H.objs ol = some (.row ((l ++ tl).map tmV) 2)
  map : H.objs om = some (.map (ms.map enV) cl)
  ne1 : o ≠ ol
  ne2 : o ≠ om
  ne3 : ol ≠ om
  lo : o < H.next
  lol : ol < H.next
  lom : om < H.next
  mp : MapOk ms cl l
/-- objects other than these two are as they were -/
def Same (H H' : Hp) (ol om : Nat) : Prop := H'.next = H.next ∧ ∀ q, q ≠ ol → q ≠ om → H'.objs q = H.objs q
theorem Same.refl {H : Hp} {ol om : Nat} : Same H H ol om := ⟨rfl, fun _ _ _ => rfl⟩
theorem Same.trans {H H' H'' : Hp} {ol om : Nat} (h : Same H H' ol om) (h' : Same H' H'' ol om) : Same H H'' ol om :=
  ⟨h'.1.trans h.1, fun q h1 h2 => (h'.2 q h1 h2).trans (h.2 q h1 h2)⟩
theorem tl_at {l tl : List Tm} {i : Nat} {t : Tm} (h : l[i]? = some t) : (l ++ tl)[i]? = some t := by
  rw [List.getElem?_append_left (List.getElem?_eq_some_iff.1 h).1]; exact h

theorem r_ahead (r : VV) (a b : Tm) (H : Hp) : Runs Try.prog pol 27 [.val r, .val (tmV a), .val (tmV b)] H ([.val (.bool (aheadB a b))], [], H) := by
  refine Runs.told (fn := Try.f27) (n := 26) [(0, .val r), (1, .val (tmV a)), (2, .val (tmV b))] [(0, .gone 0), (1, .gone 0), (2, .gone 0)] rfl Try.func27 rfl rfl (by kernel_rfl) rfl (by repeat' constructor) (by repeat' constructor) ?_
  repeat' (first
    | intro _
    | refine Ws ?_
    | (refine Wt ?_ ?_ <;> intro _ <;> try (exfalso; omega))
    | (refine Wu ?_ ?_ <;> intro _)
    | refine Wv ?_
    | refine Wz ?_
    | fail)
  all_goals (simp [aheadB, *] <;> omega)
theorem r_Len (o : Nat) (H : Hp) {ol om n : Nat} (h : H.objs o = some (.cells [.row ol 0 n 2, .map (some om)])) : Runs Try.prog pol 68 [.val (.ptr o 0)] H ([.val (iv n)], [], H) := by
  refine Runs.told (fn := Try.f68) (n := 8) [(0, .val (.ptr o 0))] [(0, .gone 0)] rfl Try.func68 rfl rfl (by kernel_rfl) rfl (by repeat' constructor) (by repeat' constructor) ?_
  repeat' (first
    | intro _
    | refine Ws ?_
    | (refine Wt ?_ ?_ <;> intro _ <;> try (exfalso; omega))
    | (refine Wu ?_ ?_ <;> intro _)
    | refine Wo.loadHc h ?_
    | refine Wo.lenH ?_
    | refine Wv ?_
    | refine Wz ?_
    | fail)
  rfl
theorem r_Less {H : Hp} {o ol om cl i j : Nat} {l tl : List Tm} {ms : List En} {a b : Tm} (h : RowAt H o ol om l tl ms cl) (ha : l[i]? = some a) (hb : l[j]? = some b) :
    Runs Try.prog pol 69 [.val (.ptr o 0), .val (iv i), .val (iv j)] H ([.val (.bool (aheadB a b))], [], H) := by
  have h1 := h.row
  have h2 := h.lst
  have hi := (List.getElem?_eq_some_iff.1 ha).1
  have hj := (List.getElem?_eq_some_iff.1 hb).1
  have ha := tl_at (tl := tl) ha
  have hb := tl_at (tl := tl) hb
  refine Runs.told (fn := Try.f69) (n := 25) [(0, .val (.ptr o 0)), (1, .val (iv i)), (2, .val (iv j))] [(0, .gone 0), (1, .gone 0), (2, .gone 0)] rfl Try.func69 rfl rfl (by kernel_rfl) rfl (by repeat' constructor) (by repeat' constructor) ?_
  repeat' (first
    | intro _
    | refine Ws ?_
    | (refine Wt ?_ ?_ <;> intro _ <;> try (exfalso; omega))
    | (refine Wu ?_ ?_ <;> intro _)
    | refine Wo.loadHc h1 ?_
    | refine Wo.idxHs ?_
    | refine Wo.loadHs (fo := 0) h2 ha ?_
    | refine Wo.loadHs (fo := 0) h2 hb ?_
    | refine Wo.call0 (r_ahead _ a b) ?_
    | refine Wv ?_
    | refine Wz ?_
    | fail)
  rfl
end Go.Vi.CYtmcojibgjibkdaa
