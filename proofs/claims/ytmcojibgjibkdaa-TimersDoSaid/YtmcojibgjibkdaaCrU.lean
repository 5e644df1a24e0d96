/-
  slices.SortFunc over timers, by the library's contract; All.
-/
import Derived.Test.YtmcojibgjibkdaaCrT
import Derived.Shelf.SlSortCmp.NoneTotal
import Derived.Test.YtmcojibgjibkdaaCrS
namespace Go.Vi.CYtmcojibgjibkdaa
open Go.Vi Go.Proofs Go.Proofs.Ytmcojibgjibkdaa Go.Shelf Go.RowKit Go.Lib Go.Sort
set_option linter.unusedVariables false
set_option linter.unusedSimpArgs false
set_option maxHeartbeats 4000000
set_option maxRecDepth 100000

/-- a world that differs in one row's cells, and in new blocks -/
theorem row_post {mode : Nat → Nat} {gh : Gh} {H : Hp} {w w' : World} {es es' : List VV} {sz : Nat} {a : RV} {vals : List Value} {pl : List (Option Place)} {b o s : Nat}
    (hE : Enter gh H w [.own es sz, a] vals pl) (hp : pl = [some (b, o, s), none]) (hm0 : mode 0 = 2) (hm1 : mode 1 = 0)
    (hsz : w.heap.size ≤ w'.heap.size) (hst : Still w w') (ho : ∀ k, k < w.heap.size → k ≠ b → w'.heap[k]? = w.heap[k]?) (hb : b < w.heap.size)
    (hr : (∀ u x, VR gh H.next w u x → VR gh H.next w' u x) → RowIn gh H.next w' es' sz b o s) :
    Post mode gh H w [.own es sz, a] pl [] [.own es' sz] H (.tuple #[]) gh w' := by
  subst hp
  obtain ⟨g0, gO⟩ := hE.own 0 b o s rfl
  have hcell : ∀ k q, q < gh.G k → cellAt w' k q = cellAt w k q := fun k q hq => by
    by_cases h1 : k = b
    · subst h1; omega
    · by_cases h2 : k < w.heap.size
      · exact cellAt_congr (ho k h2 h1) q
      · rw [hE.objs.G0 k (by omega)] at hq; omega
  have hV : ∀ u x, VR gh H.next w u x → VR gh H.next w' u x := fun u x h => VRel.mono (Nat.le_refl _) (fun _ _ => rfl) (fun _ => Nat.le_refl _) hcell h
  have hR := hr hV
  have hL : ∀ q, Lof [some (b, o, s), none] q → q = b := fun q ⟨i, o', s', hi⟩ => by
    match i with
    | 0 => simp at hi; exact hi.1.symm
    | 1 => simp at hi
    | i + 2 => simp at hi
  have hlent : lentPl mode 0 [RV.own es sz, a] [some (b, o, s), none] = [(b, o, s)] := by
    simp [lentPl, hm0, hm1, isOwned]
  have hobj : ∀ q obj, H.objs q = some obj → w'.heap[(gh.μ q).blk]? = w.heap[(gh.μ q).blk]? := fun q obj hq =>
    ho _ (hE.objs.lt q (by simp [hq])).2.2 (gO q (by simp [hq]))
  refine ⟨⟨⟨fun q obj hq => ?_, fun q hq => ?_, hE.objs.inj, fun k hk => hE.objs.G0 k (by omega)⟩, hsz, fun k h1 h2 _ => ho k h1 fun e => h2 ⟨0, o, s, by simp [e]⟩, fun _ _ _ => rfl, fun _ _ => rfl, Nat.le_refl _, fun _ _ h => h,
    fun q hq h => absurd (hE.objs.lt q h).1 (by omega), hst⟩, ⟨[], [], .nil, rfl, ?_, fun p hp => ?_⟩, ?_, fun k p r hk hr' => ?_⟩
  · have h := hE.objs.at_ q obj hq
    cases obj with
    | cells cs =>
      obtain ⟨c, ty, h1, h2, h4, h3⟩ := h
      exact ⟨c, ty, by rw [hobj q _ hq]; exact h1, h2, h4, fun i x v a b => hV _ _ (h3 i x v a b)⟩
    | row es sz =>
      obtain ⟨c, ty, h1, h2, h3, h4, h5, h6⟩ := h
      exact ⟨c, ty, by rw [hobj q _ hq]; exact h1, h2, h3, h4, h5, fun i e j x v a b d => hV _ _ (h6 i e j x v a b d)⟩
    | map en ck =>
      obtain ⟨c, h1, h2, h3⟩ := h
      refine ⟨c, by rw [hobj q _ hq]; exact h1, h2, fun i k v born e a b => ?_⟩
      obtain ⟨p, q, r⟩ := h3 i k v born e a b
      exact ⟨hV _ _ p, hV _ _ q, r⟩
  · obtain ⟨h1, h2, h3⟩ := hE.objs.lt q hq
    exact ⟨h1, h2, by omega⟩
  · rw [hlent]; simp
  · rw [hlent] at hp
    simp at hp
    subst hp
    exact ⟨g0, .inr ⟨0, o, s, rfl⟩, by dsimp only; omega, gO⟩
  · rw [hlent]; rfl
  · rw [hlent] at hk
    match k with
    | 0 =>
      simp at hk hr'
      subst hk; subst hr'
      exact .row _ _ _ _ _ hR
    | k + 1 => simp at hk
/-- a call that leaves all as it was -/
theorem same_post {mode : Nat → Nat} {gh : Gh} {H : Hp} {w : World} {args : List RV} {vals : List Value} {pl : List (Option Place)} {rs : List RV} {vl : List Value}
    (hE : Enter gh H w args vals pl) (hl : lentPl mode 0 args pl = []) (hr : RsRel gh H.next w rs vl []) : Post mode gh H w args pl rs [] H (retVal vl) gh w := by
  refine ⟨⟨hE.objs, Nat.le_refl _, fun _ _ _ _ => rfl, fun _ _ _ => rfl, fun _ _ => rfl, Nat.le_refl _, fun _ _ h => h, fun q hq h => absurd (hE.objs.lt q h).1 (by omega), Still.refl _⟩, ⟨vl, [], hr, rfl, ?_, fun p hp => ?_⟩, ?_, fun k p r hk hr' => ?_⟩
  · rw [hl]; simp
  · rw [hl] at hp; simp at hp
  · rw [hl]; rfl
  · rw [hl] at hk; simp at hk
theorem there_sort : ∃ fn, Try.prog.funcs[25]? = some fn ∧ fn.body.isSome ∧ (fn.name == "runtime.NumGoroutine") = false := ⟨_, Try.func25, rfl, by kernel_rfl⟩
theorem sort_ans0 (v : VV) {mode : FuncId → Nat → Nat} (H : Hp) : AnsOk Try.prog mode 25 [.val (.lst []), .val v] H [] [] H := by
  refine ⟨there_sort, fun gh w vals pl hE => ?_⟩
  match vals, hE.len, pl, hE.lenp with
  | [v0, v1], _, [p0, p1], _ =>
    have r0 := hE.rel 0 _ _ _ rfl rfl rfl
    have r1 := hE.rel 1 _ _ _ rfl rfl rfl
    cases r1 with
    | val u x h1 =>
    cases r0 with
    | val u0 x0 h0 =>
    have hl : lentPl (mode 25) 0 [RV.val (.lst []), RV.val v] [none, none] = [] := by simp [lentPl, isOwned]
    have key : ∀ a cap, v0 = .slice a 0 cap → Calls Try.prog 25 #[v0, v1] w fun e w' => ∃ z gh', e = .returned z ∧ Post (mode 25) gh H w [RV.val (.lst []), RV.val v] [none, none] [] [] H z gh' w' := fun a cap e => by
      subst e
      refine Calls.mono (Go.Proofs.AnyF.slices_SortFunc_none (ρ := sortL_ren) sortL a cap v1 w) fun e w' he => ?_
      obtain ⟨rfl, rfl⟩ := he
      exact ⟨_, gh, rfl, same_post hE hl .nil⟩
    cases h0 with
    | lst _ b base sz cap vs _ _ _ _ => exact key _ _ rfl
    | lste a cap => exact key _ _ rfl
/-- the cells of a block behind a row laid anew -/
theorem sorted_block {α : Type} [Inhabited α] (enc : α → Value) (w : World) (b o n : Nat) (d : Array α) (os : Array Go.Obj) {c : Array Value} {ty : TypeId} (hc : w.heap[b]? = some (.cells c ty (0, 0))) :
    (grow (putRow enc (Sort.ahead w n) b o d) os).heap[b]? = some (.cells (Sort.putCells enc o d c) ty (0, 0)) ∧
    (∀ k, k < w.heap.size → k ≠ b → (grow (putRow enc (Sort.ahead w n) b o d) os).heap[k]? = w.heap[k]?) ∧ w.heap.size ≤ (grow (putRow enc (Sort.ahead w n) b o d) os).heap.size ∧
    Still w (grow (putRow enc (Sort.ahead w n) b o d) os) := by
  have hb : b < w.heap.size := (Array.getElem?_eq_some_iff.1 hc).1
  have hs : (putRow enc (Sort.ahead w n) b o d).heap.size = w.heap.size := by rw [Go.Sort.size_putRow]; rfl
  refine ⟨?_, fun k hk hne => ?_, ?_, rfl, rfl, rfl⟩
  · rw [heap_grow_old _ _ (by rw [hs]; exact hb)]
    simp only [putRow, mapBlock, Array.getElem?_modify, Sort.ahead, hc, if_true, Option.map_some, onCells]
  · rw [heap_grow_old _ _ (by rw [hs]; exact hk)]
    simp only [putRow, mapBlock, Array.getElem?_modify, Sort.ahead]
    rw [if_neg (Ne.symm hne)]
  · rw [size_grow, hs]; exact Nat.le_add_right _ _

instance : Inhabited Tm := ⟨⟨0, 0⟩⟩
def encT (x : Tm) : List Value := [.int .i64 x.due, .int .i64 x.key]
theorem lt_cfT (x y : Tm) : ltOf cfT x y = aheadB x y := by
  unfold ltOf cfT
  cases aheadB x y <;> simp
theorem swoT : SWO (ltOf cfT) where
  irrefl x := by rw [lt_cfT, ← Bool.not_eq_true, ahead_iff]; omega
  trans x y z h1 h2 := by rw [lt_cfT] at *; exact ahead_trans h1 h2
  ntrans x y z h1 h2 := by
    rw [lt_cfT, ← Bool.not_eq_true, ahead_iff] at *; omega
theorem totT (x y : Tm) (h : ltOf cfT x y = false) (h2 : ltOf cfT y x = false) : x = y := by
  rw [lt_cfT] at *
  exact le_antisymm h2 h
theorem enc_cell {x : Tm} {gh : Gh} {nx : Nat} {w : World} {j : Nat} {y : VV} {v : Value} (hj : (tmV x).cells[j]? = some y) (h : VR gh nx w y v) : j < 2 ∧ v = (encT x)[j]! := by
  match j with
  | 0 => simp [VV.cells] at hj; subst hj; cases h; exact ⟨by omega, rfl⟩
  | 1 => simp [VV.cells] at hj; subst hj; cases h; exact ⟨by omega, rfl⟩
  | j + 2 => simp [VV.cells] at hj
theorem enc_of {x : Tm} {gh : Gh} {nx : Nat} {w : World} {j : Nat} {y : VV} (hj : (tmV x).cells[j]? = some y) : VR gh nx w y (encT x)[j]! := by
  match j with
  | 0 => simp [VV.cells] at hj; subst hj; exact .int _ _
  | 1 => simp [VV.cells] at hj; subst hj; exact .int _ _
  | j + 2 => simp [VV.cells] at hj
theorem sortM_eq (l : List Tm) : (l.mergeSort fun x y => !(ltOf cfT) y x) = sortM l := by
  unfold sortM
  congr 1
  funext x y
  rw [lt_cfT]
theorem sort_ansT (l : List Tm) (hne : l ≠ []) (hlen : l.length < 4611686018427387904) {c r0 : Nat} {H : Hp} {x0 : VV} (hO : H.objs c = some (.cells [x0, .ptr r0 0])) {mode : FuncId → Nat → Nat} (hm0 : mode 25 0 = 2) (hm1 : mode 25 1 = 0) :
    AnsOk Try.prog mode 25 [.own (l.map tmV) 2, .val (.func 26 [] [.elt [.agg [.ptr c 0]] 0 0])] H [] [.own ((sortM l).map tmV) 2] H := by
  refine ⟨there_sort, fun gh w vals pl hE => ?_⟩
  match vals, hE.len, pl, hE.lenp with
  | [v0, v1], _, [p0, p1], _ =>
    have r0' := hE.rel 0 _ _ _ rfl rfl rfl
    have r1 := hE.rel 1 _ _ _ rfl rfl rfl
    cases r1 with
    | val u x h =>
    cases h with
    | func f fi ca l1 l2 e1 e2 _ h2 =>
    cases List.length_eq_zero_iff.1 e1
    match l2, e2 with
    | [vc], _ =>
    have hvc := h2 0 _ _ rfl rfl
    cases hvc with
    | elt es i off bb base szb vs hs hc hv =>
    obtain ⟨g1, cA⟩ := hc 0 _ 0 _ rfl rfl
    have hp := hv 0 _ 0 _ rfl rfl
    generalize vs 0 0 = z at cA hp
    cases hp with
    | ptr _ _ hc0 =>
    obtain ⟨cc, tyc, o1, o2, o3, _⟩ := hE.objs.at_ c _ hO
    obtain ⟨_, oG, oB⟩ := hE.objs.lt c (by simp [hO])
    cases r0' with
    | own es n sz b o s b' o' cap hl h hn ha =>
    obtain ⟨_, ca, ty, c1, c2, c3, c4, c5⟩ := h
    have hl' : n = l.length := by rw [hl, List.length_map]
    have hpos : 0 < l.length := List.length_pos_iff.2 hne
    obtain ⟨rfl, rfl, hcap⟩ : b' = b ∧ o' = o ∧ o + cap * 2 ≤ s := by
      rcases ha with ha | ha
      · exact ha
      · omega
    obtain ⟨own0, own1⟩ := hE.own 0 b' o' s rfl
    have hb : b' < w.heap.size := (Array.getElem?_eq_some_iff.1 c1).1
    have hbb : bb ≠ b' := fun e => by subst e; omega
    have hcb : (gh.μ c).blk ≠ b' := own1 c (by simp [hO])
    have hbs : bb < w.heap.size := by
      rcases Nat.lt_or_ge bb w.heap.size with h9 | h9
      · exact h9
      · rw [hE.objs.G0 bb h9] at g1; omega
    obtain ⟨rp, hrp⟩ : ∃ rp, cc[1]? = some rp := ⟨_, Array.getElem?_eq_getElem (by rw [o2]; show 1 < 2; decide)⟩
    have cB : w.cell? ⟨(gh.μ c).blk, (gh.μ c).off + 0 + 1, none⟩ = some rp := by
      rw [o3]
      simp only [World.cell?, o1]; exact hrp
    have cellj : ∀ i j, (hi : i < l.length) → j < 2 → ca[o' + i * 2 + j]? = some ((encT l[i])[j]!) := fun i j hi hj => by
      have hlt : o' + i * 2 + j < ca.size := by simp at c3; omega
      obtain ⟨y, hy⟩ : ∃ y, (tmV l[i]).cells[j]? = some y := by
        match j, hj with
        | 0, _ => exact ⟨_, rfl⟩
        | 1, _ => exact ⟨_, rfl⟩
      have := c5 i (tmV l[i]) j y ca[o' + i * 2 + j] (by simp [hi]) hy (by simp [hlt])
      rw [Array.getElem?_eq_getElem hlt, (enc_cell hy this).2]
    have hH : HoldsK encT 2 w b' o' l.toArray := fun t ht => by
      have ht2 : t < l.length * 2 := by simpa using ht
      constructor
      · simp only [World.cell?, c1]
        rw [get_flatK _ _ _ _ (by simpa using ht2)]
        have := cellj (t / 2) (t % 2) (by omega) (by omega)
        rw [show o' + t / 2 * 2 + t % 2 = o' + t by omega] at this
        rw [this, getElem!_pos l.toArray (t / 2) (by simp; omega), List.getElem_toArray]; rfl
      · simp [World.frozen?, c1]
    have hcmp : CmpLays Try.prog 26 #[.pointer (some ⟨bb, base + 0 * szb + 0, none⟩)] encT 2 cfT b' o' l.toArray.size w := fun m os dk hdk x y => by
      have hsz : (putRowK encT 2 (Sort.ahead w m) b' o' dk).heap.size = w.heap.size := by unfold putRowK; rw [Go.Sort.size_putRow]; rfl
      have hsz2 : (sortWorldK encT 2 w b' o' m dk os).heap.size = w.heap.size + os.size := by unfold sortWorldK; rw [size_grow, hsz]
      have old : ∀ a : Addr, a.block < w.heap.size → a.block ≠ b' → (sortWorldK encT 2 w b' o' m dk os).cell? a = w.cell? a := fun a ha hne => by
        unfold sortWorldK
        rw [cell?_grow _ _ _ (by rw [hsz]; exact ha), cell?_putRowK_other _ _ _ _ _ _ _ hne]; rfl
      exact cmp_base x y _ bb _ (gh.μ c).blk _ rp (by rw [hsz2]; omega) (by rw [hsz2]; omega) (by rw [old _ hbs hbb]; exact cA) (by rw [old _ oB hcb]; exact cB)
    subst hl'
    have hS := Go.Proofs.AnyQ.slices_SortFunc_total (ρ := sortL_ren) sortL 2 Try.isAgg50 Try.sizeOf50 encT (fun _ => rfl) (fun x v hv => by simp [encT] at hv; rcases hv with rfl | rfl <;> rfl) cfT swoT 26 #[.pointer (some ⟨bb, base + 0 * szb + 0, none⟩)] b' o' cap l.toArray w
      (enters_of Try.func26 (by kernel_rfl) rfl) hcmp hH hb (by simpa using hlen) totT
    change Calls Try.prog 25 _ _ _ at hS
    refine Calls.mono hS fun e w' he => ?_
    obtain ⟨rfl, m, os, rfl⟩ := he
    rw [show (l.toArray.toList.mergeSort fun x y => !(ltOf cfT) y x) = sortM l from sortM_eq l]
    have hsl : (sortM l).length = l.length := List.length_mergeSort _
    obtain ⟨k1, k2, k3, k4⟩ := sorted_block id w b' o' m (flatK encT 2 (sortM l).toArray) os c1
    refine ⟨_, gh, rfl, row_post hE rfl hm0 hm1 k3 k4 k2 hb fun hV => ⟨by decide, _, ty, k1, by simpa [Sort.putCells] using c2, by rw [List.length_map, hsl]; simpa using c3, fun i e hi => ?_, fun i e j x v hi hj hv => ?_⟩⟩
    · rw [List.getElem?_map, Option.map_eq_some_iff] at hi
      obtain ⟨z, _, rfl⟩ := hi
      rfl
    · rw [List.getElem?_map, Option.map_eq_some_iff] at hi
      obtain ⟨z, hz, rfl⟩ := hi
      have hj2 : j < 2 := by have := (List.getElem?_eq_some_iff.1 hj).1; simpa [VV.cells] using this
      obtain ⟨hi1, hz2⟩ := List.getElem?_eq_some_iff.1 hz
      have hi2 : i < l.length := by omega
      simp only [Sort.putCells, Array.getElem?_mapIdx] at hv
      rw [cellj i j hi2 hj2, Option.map_some, if_pos ⟨by omega, by simp [hsl]; omega⟩, show o' + i * 2 + j - o' = i * 2 + j by omega] at hv
      simp only [Option.some.injEq] at hv
      rw [get_flatK _ _ _ _ (by simp [hsl]; omega), show (i * 2 + j) / 2 = i by omega, show (i * 2 + j) % 2 = j by omega, getElem!_pos (sortM l).toArray i (by simpa using hi1), List.getElem_toArray, hz2] at hv
      subst hv
      exact enc_of hj
theorem tmsV_is : ∀ {es : List VV} {l : List Tm}, tmsV es = some l → es = l.map tmV
  | [], l, h => by simp [tmsV] at h; subst h; rfl
  | e :: es, l, h => by
    unfold tmsV at h
    split at h
    · rename_i he
      cases he
    · rename_i d k r he
      cases he
      rw [Option.map_eq_some_iff] at h
      obtain ⟨a, ha, rfl⟩ := h
      rw [tmsV_is ha]; rfl
    · cases h
theorem tmsV_of : ∀ (l : List Tm), tmsV (l.map tmV) = some l
  | [] => rfl
  | x :: r => by
    show (tmsV (r.map tmV)).map _ = _
    rw [tmsV_of r]; rfl
theorem sortX_ok {args : List RV} {H : Hp} {rs bs : List RV} (hg : sortX args H = some (rs, bs)) : AnsOk Try.prog mode21 25 args H rs bs H := by
  unfold sortX at hg
  split at hg
  · rename_i es f c
    split at hg
    · rename_i hc
      obtain ⟨rfl, hlen⟩ := hc
      split at hg
      · rename_i x0 r0 x r hO hs
        simp only [Option.some.injEq, Prod.mk.injEq] at hg
        obtain ⟨rfl, rfl⟩ := hg
        have := tmsV_is hs
        subst this
        exact sort_ansT (x :: r) (by simp) (by simpa using hlen) hO rfl rfl
      · cases hg
    · cases hg
  · simp only [Option.some.injEq, Prod.mk.injEq] at hg
    obtain ⟨rfl, rfl⟩ := hg
    exact sort_ans0 _ H
  · cases hg
theorem ext_ok0 : ExtOk Try.prog pol0 := by
  intro f g args H rs bs hf hg
  have hf' : ext0 f = some g := hf
  unfold ext0 at hf'
  split at hf'
  · rename_i he
    subst he
    simp only [Option.some.injEq] at hf'
    subst hf'
    exact sortX_ok hg
  · cases hf'
end Go.Vi.CYtmcojibgjibkdaa
