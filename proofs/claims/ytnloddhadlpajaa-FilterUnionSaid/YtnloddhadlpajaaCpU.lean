/-
  A row that is sorted, or otherwise laid anew, by a contract of the library: what the call leaves.
-/
import Derived.Test.YtnloddhadlpajaaV4
import Derived.Shelf.SlSortCmp.NoneTotal
import Derived.Shelf.Slices.CompactS
namespace Go.Vi.CYtnloddhadlpajaa
open Go.Vi Go.Sort
set_option linter.unusedVariables false
set_option linter.unusedSimpArgs false

/-- a world that differs in one row's cells, and in new blocks -/
theorem row_post {mode : Nat → Nat} {gh : Gh} {H : Hp} {w w' : World} {es es' : List VV} {sz : Nat} {a : RV} {vals : List Value} {pl : List (Option Place)} {b o s : Nat}
    (hE : Enter gh H w [.own es sz, a] vals pl) (hp : pl = [some (b, o, s), none]) (hm0 : mode 0 = 2) (hm1 : mode 1 = 0)
    (hsz : w.heap.size ≤ w'.heap.size) (hst : Still w w') (ho : ∀ k, k < w.heap.size → k ≠ b → w'.heap[k]? = w.heap[k]?) (hb : b < w.heap.size)
    (hr : (∀ u x, VR gh H.next w u x → VR gh H.next w' u x) → RowIn gh H.next w' es' sz b o s) :
    Post mode gh H w [.own es sz, a] pl [] [.own es' sz] H (.tuple #[]) gh w' := by
  subst hp
  obtain ⟨g0, gO⟩ := hE.own 0 b o s rfl
  have hcell : ∀ k q, q < gh.G k → cellAt w' k q = cellAt w k q := fun k q hq => by
    by_cases h1 : k = b
    · subst h1; omega
    · by_cases h2 : k < w.heap.size
      · exact cellAt_congr (ho k h2 h1) q
      · rw [hE.objs.G0 k (by omega)] at hq; omega
  have hV : ∀ u x, VR gh H.next w u x → VR gh H.next w' u x := fun u x h => VRel.mono (Nat.le_refl _) (fun _ _ => rfl) (fun _ => Nat.le_refl _) hcell h
  have hR := hr hV
  have hL : ∀ q, Lof [some (b, o, s), none] q → q = b := fun q ⟨i, o', s', hi⟩ => by
    match i with
    | 0 => simp at hi; exact hi.1.symm
    | 1 => simp at hi
    | i + 2 => simp at hi
  have hlent : lentPl mode 0 [RV.own es sz, a] [some (b, o, s), none] = [(b, o, s)] := by
    simp [lentPl, hm0, hm1, isOwned]
  have hobj : ∀ q obj, H.objs q = some obj → w'.heap[gh.μ q]? = w.heap[gh.μ q]? := fun q obj hq =>
    ho _ (hE.objs.lt q (by simp [hq])).2.2 (gO q (by simp [hq]))
  refine ⟨⟨⟨fun q obj hq => ?_, fun q hq => ?_, hE.objs.inj, fun k hk => hE.objs.G0 k (by omega)⟩, hsz, fun k h1 h2 _ => ho k h1 fun e => h2 ⟨0, o, s, by simp [e]⟩, fun _ _ _ => rfl, fun _ _ => rfl, Nat.le_refl _, fun _ _ h => h,
    fun q hq h => absurd (hE.objs.lt q h).1 (by omega), hst⟩, ⟨[], [], .nil, rfl, ?_, fun p hp => ?_⟩, ?_, fun k p r hk hr' => ?_⟩
  · have h := hE.objs.at_ q obj hq
    cases obj with
    | cells cs =>
      obtain ⟨c, ty, h1, h2, h3⟩ := h
      exact ⟨c, ty, by rw [hobj q _ hq]; exact h1, h2, fun i x v a b => hV _ _ (h3 i x v a b)⟩
    | map en ck =>
      obtain ⟨c, h1, h2, h3⟩ := h
      refine ⟨c, by rw [hobj q _ hq]; exact h1, h2, fun i k v born e a b => ?_⟩
      obtain ⟨p, q, r⟩ := h3 i k v born e a b
      exact ⟨hV _ _ p, hV _ _ q, r⟩
  · obtain ⟨h1, h2, h3⟩ := hE.objs.lt q hq
    exact ⟨h1, h2, by omega⟩
  · rw [hlent]; simp
  · rw [hlent] at hp
    simp at hp
    subst hp
    exact ⟨g0, .inr ⟨0, o, s, rfl⟩, by dsimp only; omega, gO⟩
  · rw [hlent]; rfl
  · rw [hlent] at hk
    match k with
    | 0 =>
      simp at hk hr'
      subst hk; subst hr'
      exact .row _ _ _ _ _ hR
    | k + 1 => simp at hk

/-- a row that was given away comes back, laid anew, as the one result -/
theorem given_post {mode : Nat → Nat} {gh : Gh} {H : Hp} {w w' : World} {es es' : List VV} {sz : Nat} {vals : List Value} {pl : List (Option Place)} {b o s n cap : Nat}
    (hE : Enter gh H w [.own es sz] vals pl) (hp : pl = [some (b, o, s)]) (hm0 : mode 0 = 1)
    (hsz : w.heap.size ≤ w'.heap.size) (hst : Still w w') (ho : ∀ k, k < w.heap.size → k ≠ b → w'.heap[k]? = w.heap[k]?) (hb : b < w.heap.size) (hn : n = es'.length) (hcap : n ≤ cap) (hs : o + cap * sz ≤ s)
    (hr : (∀ u x, VR gh H.next w u x → VR gh H.next w' u x) → RowIn gh H.next w' es' sz b o s) :
    Post mode gh H w [.own es sz] pl [.own es' sz] [] H (.slice (some ⟨b, o, none⟩) n cap) gh w' := by
  subst hp
  obtain ⟨g0, gO⟩ := hE.own 0 b o s rfl
  have hcell : ∀ k q, q < gh.G k → cellAt w' k q = cellAt w k q := fun k q hq => by
    by_cases h1 : k = b
    · subst h1; omega
    · by_cases h2 : k < w.heap.size
      · exact cellAt_congr (ho k h2 h1) q
      · rw [hE.objs.G0 k (by omega)] at hq; omega
  have hV : ∀ u x, VR gh H.next w u x → VR gh H.next w' u x := fun u x h => VRel.mono (Nat.le_refl _) (fun _ _ => rfl) (fun _ => Nat.le_refl _) hcell h
  have hR := hr hV
  have hlent : lentPl mode 0 [RV.own es sz] [some (b, o, s)] = [] := by
    simp [lentPl, hm0]
  have hobj : ∀ q obj, H.objs q = some obj → w'.heap[gh.μ q]? = w.heap[gh.μ q]? := fun q obj hq =>
    ho _ (hE.objs.lt q (by simp [hq])).2.2 (gO q (by simp [hq]))
  refine ⟨⟨⟨fun q obj hq => ?_, fun q hq => ?_, hE.objs.inj, fun k hk => hE.objs.G0 k (by omega)⟩, hsz, fun k h1 h2 _ => ho k h1 fun e => h2 ⟨0, o, s, by simp [e]⟩, fun _ _ _ => rfl, fun _ _ => rfl, Nat.le_refl _, fun _ _ h => h,
    fun q hq h => absurd (hE.objs.lt q h).1 (by omega), hst⟩, ⟨[.slice (some ⟨b, o, none⟩) n cap], [(b, o, s)], .cons _ _ _ _ _ _ (.cell _ _ _ (.own es' n sz b o s b o cap hn hR hcap (.inl ⟨rfl, rfl, hs⟩)) (fun _ _ h => by cases h)) .nil, rfl, ?_, fun p hp => ?_⟩, ?_, fun k p r hk hr' => ?_⟩
  · have h := hE.objs.at_ q obj hq
    cases obj with
    | cells cs =>
      obtain ⟨c, ty, h1, h2, h3⟩ := h
      exact ⟨c, ty, by rw [hobj q _ hq]; exact h1, h2, fun i x v a b => hV _ _ (h3 i x v a b)⟩
    | map en ck =>
      obtain ⟨c, h1, h2, h3⟩ := h
      refine ⟨c, by rw [hobj q _ hq]; exact h1, h2, fun i k v born e a b => ?_⟩
      obtain ⟨p, q, r⟩ := h3 i k v born e a b
      exact ⟨hV _ _ p, hV _ _ q, r⟩
  · obtain ⟨h1, h2, h3⟩ := hE.objs.lt q hq
    exact ⟨h1, h2, by omega⟩
  · rw [hlent]; simp
  · rw [hlent] at hp
    simp at hp
    subst hp
    exact ⟨g0, .inr ⟨0, o, s, rfl⟩, by dsimp only; omega, gO⟩
  · rw [hlent]; rfl
  · rw [hlent] at hk
    simp at hk

/-- a call that leaves all as it was -/
theorem same_post {mode : Nat → Nat} {gh : Gh} {H : Hp} {w : World} {args : List RV} {vals : List Value} {pl : List (Option Place)} {rs : List RV} {vl : List Value}
    (hE : Enter gh H w args vals pl) (hl : lentPl mode 0 args pl = []) (hr : RsRel gh H.next w rs vl []) : Post mode gh H w args pl rs [] H (retVal vl) gh w := by
  refine ⟨⟨hE.objs, Nat.le_refl _, fun _ _ _ _ => rfl, fun _ _ _ => rfl, fun _ _ => rfl, Nat.le_refl _, fun _ _ h => h, fun q hq h => absurd (hE.objs.lt q h).1 (by omega), Still.refl _⟩, ⟨vl, [], hr, rfl, ?_, fun p hp => ?_⟩, ?_, fun k p r hk hr' => ?_⟩
  · rw [hl]; simp
  · rw [hl] at hp; simp at hp
  · rw [hl]; rfl
  · rw [hl] at hk; simp at hk
theorem sort_ans0 {P : Program} {ρ : Go.Shelf.Ren} (L : Go.Proofs.SlLaysF0.n6 P ρ) (v : VV) (hf : ∃ fn, P.funcs[ρ.f 6]? = some fn ∧ fn.body.isSome ∧ (fn.name == "runtime.NumGoroutine") = false) {mode : FuncId → Nat → Nat} (H : Hp) :
    AnsOk P mode (ρ.f 6) [.val (.lst []), .val v] H [] [] H := by
  refine ⟨hf, fun gh w vals pl hE => ?_⟩
  match vals, hE.len, pl, hE.lenp with
  | [v0, v1], _, [p0, p1], _ =>
    have r0 := hE.rel 0 _ _ _ rfl rfl rfl
    have r1 := hE.rel 1 _ _ _ rfl rfl rfl
    cases r1 with
    | val u x h1 =>
    cases r0 with
    | val u0 x0 h0 =>
    have hl : lentPl (mode (ρ.f 6)) 0 [RV.val (.lst []), RV.val v] [none, none] = [] := by simp [lentPl, isOwned]
    have key : ∀ a cap, v0 = .slice a 0 cap → Calls P (ρ.f 6) #[v0, v1] w fun e w' => ∃ z gh', e = .returned z ∧ Post (mode (ρ.f 6)) gh H w [RV.val (.lst []), RV.val v] [none, none] [] [] H z gh' w' := fun a cap e => by
      subst e
      refine Calls.mono (Go.Proofs.AnyF.slices_SortFunc_none L a cap v1 w) fun e w' he => ?_
      obtain ⟨rfl, rfl⟩ := he
      exact ⟨_, gh, rfl, same_post hE hl .nil⟩
    cases h0 with
    | lst _ b base sz cap vs _ _ _ _ => exact key _ _ rfl
    | lste a cap => exact key _ _ rfl

/-- the cells of a block behind a row laid anew -/
theorem sorted_block {α : Type} [Inhabited α] (enc : α → Value) (w : World) (b o n : Nat) (d : Array α) (os : Array Go.Obj) {c : Array Value} {ty : TypeId} (hc : w.heap[b]? = some (.cells c ty (0, 0))) :
    (grow (putRow enc (Sort.ahead w n) b o d) os).heap[b]? = some (.cells (Sort.putCells enc o d c) ty (0, 0)) ∧
    (∀ k, k < w.heap.size → k ≠ b → (grow (putRow enc (Sort.ahead w n) b o d) os).heap[k]? = w.heap[k]?) ∧ w.heap.size ≤ (grow (putRow enc (Sort.ahead w n) b o d) os).heap.size ∧
    Still w (grow (putRow enc (Sort.ahead w n) b o d) os) := by
  have hb : b < w.heap.size := (Array.getElem?_eq_some_iff.1 hc).1
  have hs : (putRow enc (Sort.ahead w n) b o d).heap.size = w.heap.size := by rw [size_putRow]; rfl
  refine ⟨?_, fun k hk hne => ?_, ?_, rfl, rfl, rfl⟩
  · rw [heap_grow_old _ _ (by rw [hs]; exact hb)]
    simp only [putRow, mapBlock, Array.getElem?_modify, Sort.ahead, hc, if_true, Option.map_some, onCells]
  · rw [heap_grow_old _ _ (by rw [hs]; exact hk)]
    simp only [putRow, mapBlock, Array.getElem?_modify, Sort.ahead]
    rw [if_neg (Ne.symm hne)]
  · rw [size_grow, hs]; exact Nat.le_add_right _ _
/-- texts, or numbers, that the interpreter and the model tell alike -/
structure Cell1 {α : Type} (ev : α → VV) (enc : α → Value) : Prop where
  one : ∀ x, (ev x).cells = [ev x]
  to : ∀ {μ nx G w x v}, VRel μ nx G w (ev x) v → v = enc x
  of : ∀ {μ nx G w} (x), VRel μ nx G w (ev x) (enc x)
theorem cell_str : Cell1 VV.str Value.string := ⟨fun _ => rfl, fun h => by cases h; rfl, fun _ => .str _⟩

theorem sort_ans {P : Program} {ρ : Go.Shelf.Ren} {α : Type} [Inhabited α] (L : Go.Proofs.SlLaysF.n6 P ρ) {ev : α → VV} {enc : α → Value} (hev : Cell1 ev enc) (h1 : Go.Proofs.OneCell enc) (cf : α → α → Int) (hO : SWO (Go.Proofs.ltOf cf)) (hT : ∀ x y, (Go.Proofs.ltOf cf) x y = false → (Go.Proofs.ltOf cf) y x = false → x = y)
    (g : FuncId) (hcmp : ∀ x y W, Calls P g #[enc x, enc y] W fun e w' => e = .returned (.int .i64 (cf x y)) ∧ ∃ q, w' = W.drewN q) (eg : ∀ args w, (callFunc g args).run P w = .ok (.enter g args) w)
    (hf : ∃ fn, P.funcs[ρ.f 6]? = some fn ∧ fn.body.isSome ∧ (fn.name == "runtime.NumGoroutine") = false)
    (l : List α) (hne : l ≠ []) (hlen : l.length < 4611686018427387904) {mode : FuncId → Nat → Nat} (hm0 : mode (ρ.f 6) 0 = 2) (hm1 : mode (ρ.f 6) 1 = 0) (H : Hp) :
    AnsOk P mode (ρ.f 6) [.own (l.map ev) 1, .val (.func g [] [])] H [] [.own ((l.mergeSort fun x y => !(Go.Proofs.ltOf cf) y x).map ev) 1] H := by
  refine ⟨hf, fun gh w vals pl hE => ?_⟩
  match vals, hE.len, pl, hE.lenp with
  | [v0, v1], _, [p0, p1], _ =>
    have r0 := hE.rel 0 _ _ _ rfl rfl rfl
    have r1 := hE.rel 1 _ _ _ rfl rfl rfl
    cases r1 with
    | val u x h =>
    cases h with
    | func f fi ca l1 l2 e1 e2 _ _ =>
    cases List.length_eq_zero_iff.1 e1
    cases List.length_eq_zero_iff.1 e2
    cases r0 with
    | own es n sz b o s b' o' cap hl h hn ha =>
    obtain ⟨_, c, ty, c1, c2, c3, c4, c5⟩ := h
    have hl' : n = l.length := by rw [hl, List.length_map]
    have hpos : 0 < l.length := List.length_pos_iff.2 hne
    obtain ⟨rfl, rfl, hcap⟩ : b' = b ∧ o' = o ∧ o + cap * 1 ≤ s := by
      rcases ha with ha | ha
      · exact ha
      · omega
    have hb : b' < w.heap.size := (Array.getElem?_eq_some_iff.1 c1).1
    have cellj : ∀ j, j < l.length → c[o' + j]? = some (enc (l.toArray)[j]!) := fun j hj => by
      have hlt : o' + j < c.size := by simp at c3; omega
      have := c5 j (ev l[j]) 0 (ev l[j]) c[o' + j] (by simp [hj]) (by rw [hev.one]; rfl) (by simp [hlt])
      rw [Array.getElem?_eq_getElem hlt, hev.to this]
      simp [hj]
    have hH : Holds enc w b' o' l.toArray := fun j hj => by
      have hj' : j < l.length := by simpa using hj
      constructor
      · simp only [World.cell?, c1]
        exact cellj j hj'
      · simp [World.frozen?, c1]
    subst hl'
    have hS := Go.Proofs.Any.slices_SortFunc_total L enc h1 cf hO g #[] b' o' cap l.toArray w eg (Go.Proofs.CmpReads.lays fun _ _ _ _ x y => hcmp x y _) hH hb (by simpa using hlen) hT
    refine Calls.mono (by simpa using hS) fun e w' he => ?_
    obtain ⟨rfl, m, os, rfl⟩ := he
    obtain ⟨k1, k2, k3, k4⟩ := sorted_block enc w b' o' m (l.mergeSort fun x y => !(Go.Proofs.ltOf cf) y x).toArray os c1
    refine ⟨_, gh, rfl, row_post hE rfl hm0 hm1 k3 k4 k2 hb fun hV => ⟨Nat.one_pos, _, ty, k1, by simpa [Sort.putCells] using c2, by simpa using c3, fun i e hi => ?_, fun i e j x v hi hj hv => ?_⟩⟩
    · rw [List.getElem?_map, Option.map_eq_some_iff] at hi
      obtain ⟨z, _, rfl⟩ := hi
      rw [hev.one]; rfl
    · rw [List.getElem?_map, Option.map_eq_some_iff] at hi
      obtain ⟨z, hz, rfl⟩ := hi
      rw [hev.one] at hj
      match j with
      | 0 =>
        simp at hj
        subst hj
        have hi' : i < l.length := by have := (List.getElem?_eq_some_iff.1 hz).1; simpa using this
        simp only [Sort.putCells, Array.getElem?_mapIdx, Nat.mul_one, Nat.add_zero] at hv
        rw [cellj i hi', Option.map_some, if_pos ⟨by omega, by simp; omega⟩, show o' + i - o' = i by omega] at hv
        simp only [Option.some.injEq] at hv
        obtain ⟨hi2, hz2⟩ := List.getElem?_eq_some_iff.1 hz
        rw [getElem!_pos _ i (by simpa using hi'), List.getElem_toArray, hz2] at hv
        subst hv
        exact hev.of z
      | j + 1 => simp at hj
theorem compact_le {α : Type} [Inhabited α] [DecidableEq α] (zs : List α) : (Lib.compact zs).length ≤ zs.length := by
  unfold Lib.compact Lib.compactUpTo
  rw [List.length_map]
  exact Nat.le_trans (List.length_filter_le _ _) (by simp)
theorem compact_ans {P : Program} {ρ : Go.Shelf.Ren} (L : Go.Proofs.Lays.n194 P ρ) {ev : List UInt8 → VV} (hev : Cell1 ev Go.Proofs.encStr) (hf : ∃ fn, P.funcs[ρ.f 194]? = some fn ∧ fn.body.isSome ∧ (fn.name == "runtime.NumGoroutine") = false)
    (l : List (List UInt8)) (hne : l ≠ []) (hlen : l.length < 4611686018427387904) {mode : FuncId → Nat → Nat} (hm0 : mode (ρ.f 194) 0 = 1) (H : Hp) :
    AnsOk P mode (ρ.f 194) [.own (l.map ev) 1] H [.own ((Lib.compact l).map ev) 1] [] H := by
  refine ⟨hf, fun gh w vals pl hE => ?_⟩
  match vals, hE.len, pl, hE.lenp with
  | [v0], _, [p0], _ =>
    have r0 := hE.rel 0 _ _ _ rfl rfl rfl
    cases r0 with
    | own es n sz b o s b' o' cap hl h hn ha =>
    obtain ⟨_, c, ty, c1, c2, c3, c4, c5⟩ := h
    have hl' : n = l.length := by rw [hl, List.length_map]
    have hpos : 0 < l.length := List.length_pos_iff.2 hne
    obtain ⟨rfl, rfl, hcap⟩ : b' = b ∧ o' = o ∧ o + cap * 1 ≤ s := by
      rcases ha with ha | ha
      · exact ha
      · omega
    have hb : b' < w.heap.size := (Array.getElem?_eq_some_iff.1 c1).1
    have cellj : ∀ j, j < l.length → c[o' + j]? = some (Go.Proofs.encStr (l.toArray)[j]!) := fun j hj => by
      have hlt : o' + j < c.size := by simp at c3; omega
      have := c5 j (ev l[j]) 0 (ev l[j]) c[o' + j] (by simp [hj]) (by rw [hev.one]; rfl) (by simp [hlt])
      rw [Array.getElem?_eq_getElem hlt, hev.to this]
      simp [hj]
    have hH : Holds Go.Proofs.encStr w b' o' l.toArray := fun j hj => by
      have hj' : j < l.length := by simpa using hj
      constructor
      · simp only [World.cell?, c1]
        exact cellj j hj'
      · simp [World.frozen?, c1]
    subst hl'
    have hS := Go.Proofs.Any.slices_Compact_string L b' o' cap l w hH (by omega) hn
    refine Calls.mono (by simpa using hS) fun e w' he => ?_
    obtain ⟨rfl, m, rfl⟩ := he
    have hle := compact_le l
    obtain ⟨k1, k2, k3, k4⟩ := sorted_block Go.Proofs.encStr w b' o' m (Lib.compact l ++ List.replicate (l.length - (Lib.compact l).length) []).toArray #[] c1
    rw [grow_empty] at k1 k2 k3 k4
    refine ⟨_, gh, rfl, given_post hE rfl hm0 k3 k4 k2 hb (by simp) (by omega) hcap fun hV => ⟨Nat.one_pos, _, ty, k1, by simpa [Sort.putCells] using c2, by simp at c3 ⊢; omega, fun i e hi => ?_, fun i e j x v hi hj hv => ?_⟩⟩
    · rw [List.getElem?_map, Option.map_eq_some_iff] at hi
      obtain ⟨z, _, rfl⟩ := hi
      rw [hev.one]; rfl
    · rw [List.getElem?_map, Option.map_eq_some_iff] at hi
      obtain ⟨z, hz, rfl⟩ := hi
      rw [hev.one] at hj
      match j with
      | 0 =>
        simp at hj
        subst hj
        obtain ⟨hi2, hz2⟩ := List.getElem?_eq_some_iff.1 hz
        have hi' : i < l.length := by omega
        simp only [Sort.putCells, Array.getElem?_mapIdx, Nat.mul_one, Nat.add_zero] at hv
        rw [cellj i hi', Option.map_some, if_pos ⟨by omega, by simp; omega⟩, show o' + i - o' = i by omega] at hv
        simp only [Option.some.injEq] at hv
        rw [getElem!_pos _ i (by simp; omega), List.getElem_toArray, List.getElem_append_left hi2, hz2] at hv
        subst hv
        exact hev.of z
      | j + 1 => simp at hj
theorem compact_ans0 {P : Program} {ρ : Go.Shelf.Ren} (L : Go.Proofs.Lays.n194 P ρ) (hf : ∃ fn, P.funcs[ρ.f 194]? = some fn ∧ fn.body.isSome ∧ (fn.name == "runtime.NumGoroutine") = false) {mode : FuncId → Nat → Nat} (H : Hp) :
    AnsOk P mode (ρ.f 194) [.full []] H [.full []] [] H := by
  refine ⟨hf, fun gh w vals pl hE => ?_⟩
  match vals, hE.len, pl, hE.lenp with
  | [v0], _, [p0], _ =>
    have r0 := hE.rel 0 _ _ _ rfl rfl rfl
    cases r0 with
    | full es a n h =>
    have hl : lentPl (mode (ρ.f 194)) 0 [RV.full []] [none] = [] := by simp [lentPl, isOwned]
    have hn : n = 0 := by cases h <;> rfl
    subst hn
    refine Calls.mono (Go.Proofs.Any.slices_Compact_string_empty L a 0 w) fun e w' he => ?_
    obtain ⟨rfl, rfl⟩ := he
    exact ⟨_, gh, rfl, same_post hE hl (.cons _ _ [] _ _ [] (.cell _ _ none (.full _ _ _ h) (fun _ _ h => by cases h)) .nil)⟩
end Go.Vi.CYtnloddhadlpajaa
