/- What the row's reading of an argument gives, as the print's own kinds say it: for whole numbers, bools, strings, slices and structs of these, in one another.
   Conditions: each number is of its kind, each string and slice within the row's reach. -/
import Derived.Test.YtdfhbmallnegfaaV
import Derived.Deep.Slices
import Derived.SizedLaws
import Derived.ChangeArms
import Derived.WideShapes
namespace Go.Proofs.YtdfhbmallnegfaaO
open Go.ChangeShapes Go.WideShapes Go.Deep Go.RowKit Go.Proofs.YtdfhbmallnegfaaW.PrintWords

theorem list_of {α : Type} {p : Nat → α → Prop} : ∀ n : Nat, (∀ i, i < n → ∃ y, p i y) → ∃ ys : List α, ys.length = n ∧ ∀ i y, ys[i]? = some y → p i y
  | 0, _ => ⟨[], rfl, fun i y h => by simp at h⟩
  | n + 1, h => by
    obtain ⟨ys, hl, hy⟩ := list_of n (fun i hi => h i (by omega))
    obtain ⟨y, hp⟩ := h n (by omega)
    refine ⟨ys ++ [y], by simp [hl], fun i z hz => ?_⟩
    rcases Nat.lt_or_ge i ys.length with hi | hi
    · rw [List.getElem?_append_left hi] at hz
      exact hy i z hz
    · rw [List.getElem?_append_right hi] at hz
      have h0 : i - ys.length = 0 := by
        rcases Nat.eq_zero_or_pos (i - ys.length) with h0 | h0
        · exact h0
        · rw [List.getElem?_eq_none (by simp only [List.length_singleton]; omega)] at hz
          cases hz
      rw [h0] at hz
      simp only [List.getElem?_cons_zero, Option.some.injEq] at hz
      subst hz
      have : i = n := by omega
      subst this
      exact hp

theorem weightsAll_mem {H : Type} {P : Program} {e : TypeId} : ∀ {l : List (DataW H)}, (DataW.weightsAll P e l).all (· ≤ reachBytes) = true → ∀ d ∈ l, (d.weights P e).all (· ≤ reachBytes) = true
  | [], _, d, hd => by cases hd
  | x :: l, h, d, hd => by
    rw [DataW.weightsAll, List.all_append, Bool.and_eq_true] at h
    rcases List.mem_cons.1 hd with rfl | hd
    · exact h.1
    · exact weightsAll_mem h.2 d hd

theorem weightsEach_at {H : Type} {P : Program} : ∀ {ts : List TypeId} {ds : List (DataW H)}, (DataW.weightsEach P ts ds).all (· ≤ reachBytes) = true → ∀ (j : Nat) (t : TypeId) (d : DataW H), ts[j]? = some t → ds[j]? = some d → (d.weights P t).all (· ≤ reachBytes) = true
  | [], _, _, j, t, d, ht, _ => by simp at ht
  | _ :: _, [], _, j, t, d, _, hd => by simp at hd
  | u :: ts, x :: ds, h, j, t, d, ht, hd => by
    rw [DataW.weightsEach, List.all_append, Bool.and_eq_true] at h
    cases j with
    | zero =>
      simp only [List.getElem?_cons_zero, Option.some.injEq] at ht hd
      subst ht
      subst hd
      exact h.1
    | succ j =>
      simp only [List.getElem?_cons_succ] at ht hd
      exact weightsEach_at h.2 j t d ht hd

/-- Whatever is read at type t is of kind d, and good. -/
def Opens (P : Program) (t : TypeId) {α : Type} (d : Kd α) (g : α → Prop) : Prop :=
  P.cellsOf t = d.sz ∧ ∀ (H : Type) (enc : TypeId × Value → H) (w : World) (base : Nat) (spare : Nat → Bool) (held : Bool) (fuel : Nat) (cs : List Value) (x : DataW H × List MemPlace),
    DataW.trod enc P w base spare held fuel t cs = some x → (DataW.weights P t x.1).all (· ≤ reachBytes) = true → ∃ y : α, d.K w y cs ∧ g y

section
variable {P : Program} {t e : TypeId} {α β : Type}
theorem opens_int {k : IntKind} (ht : P.underlying t = some (.int k)) (hC : P.cellsOf t = 1) : Opens P t (Kd.int k) (fun x => (Lit.int k x).wf = true) := by
  refine ⟨hC, fun H enc w base spare held fuel cs x hx _ => ?_⟩
  obtain ⟨n, rfl, _, hn⟩ := DataW.trod_int ht hx
  exact ⟨n, rfl, hn⟩
theorem opens_bool (ht : P.underlying t = some .bool) (hC : P.cellsOf t = 1) : Opens P t Kd.bool (fun _ => True) := by
  refine ⟨hC, fun H enc w base spare held fuel cs x hx _ => ?_⟩
  obtain ⟨n, rfl, _⟩ := DataW.trod_bool ht hx
  exact ⟨n, rfl, trivial⟩
theorem opens_string (ht : P.underlying t = some .string) (hC : P.cellsOf t = 1) : Opens P t Kd.string (fun s => s.size ≤ 140737488351232) := by
  refine ⟨hC, fun H enc w base spare held fuel cs x hx hw => ?_⟩
  obtain ⟨s, rfl, rfl, _⟩ := DataW.trod_string ht hx
  refine ⟨s, rfl, ?_⟩
  simp only [DataW.weights, List.all_cons, List.all_nil, Bool.and_true, reachBytes] at hw
  rw [Array.length_toList] at hw
  exact of_decide_eq_true hw
theorem opens_slice {d : Kd α} {g : α → Prop} {B : Nat} (ht : P.underlying t = some (.slice e)) (hC : P.cellsOf t = 1) (hB : P.bytesOf e = B) (h : Opens P e d g) :
    Opens P t (Kd.slice e d) (fun xs => xs.length ≤ maxLen ∧ xs.length * B ≤ 140737488351232 ∧ ∀ x ∈ xs, g x) := by
  refine ⟨hC, fun H enc w base spare held fuel cs x hx hw => ?_⟩
  rcases open_slice ht hx with ⟨rfl, rfl⟩ | ⟨a, len, cap, m, n, D, Pl, rfl, hb, hl, hm, hmm, rfl, hi⟩
  · exact ⟨[], ⟨none, 0, rfl, by simp, rfl, by simp, fun h => by simp at h⟩, by simp, by simp, by simp⟩
  · have hlm : len ≤ m := by rw [hmm]; split <;> omega
    simp only [DataW.weights, ht, List.all_cons, List.all_append, Bool.and_eq_true, reachBytes, List.length_map, List.length_range, hB] at hw
    obtain ⟨hw0', hw1, _⟩ := hw
    have hw0 := of_decide_eq_true hw0'
    have hw1' : (DataW.weightsAll P e (List.map D (List.range len))).all (· ≤ reachBytes) = true := by simpa [reachBytes] using hw1
    have key : ∀ i, i < len → ∃ y, (∃ c, c.length = d.sz ∧ d.K w y c ∧ ∀ j u, c[j]? = some u → w.cell? (a.add (i * d.sz + j)) = some u) ∧ g y := by
      intro i hi'
      obtain ⟨cs', hc, ht'⟩ := hi i (by omega)
      obtain ⟨y, hK, hg⟩ := h.2 H enc w base spare held n cs' (D i, Pl i) ht' (weightsAll_mem hw1' (D i) (List.mem_map.2 ⟨i, List.mem_range.2 hi', rfl⟩))
      rw [h.1] at hc
      obtain ⟨_, hlen, hcell⟩ := World.cells?_some hc
      refine ⟨y, ⟨cs', hlen, hK, fun j u hu => ?_⟩, hg⟩
      have hj : j < d.sz := by
        rcases Nat.lt_or_ge j cs'.length with h1 | h1
        · omega
        · rw [List.getElem?_eq_none h1] at hu
          cases hu
      rw [← hu, ← hcell j hj, Go.Deep.add_add]
    obtain ⟨ys, hyl, hy⟩ := list_of len key
    have hmax : len ≤ 9223372036854775807 := by
      have : cap ≤ 9223372036854775807 := by simpa [maxLen] using hm
      omega
    refine ⟨ys, ⟨some a, cap, by rw [hyl], by omega, rfl, by omega, fun _ => ⟨a, rfl, fun j p hp => ?_⟩⟩, by omega, ?_, fun x hx => ?_⟩
    · obtain ⟨⟨c, h1, h2, h3⟩, _⟩ := hy j p hp
      exact ⟨c, h1, h2, h3⟩
    · rw [hyl]
      exact Nat.le_trans (Nat.mul_le_mul_right _ (by omega)) hw0
    · obtain ⟨i, hi⟩ := List.mem_iff_getElem?.1 hx
      exact (hy i x hi).2

/-- A struct's fields from one on: their kinds in line. -/
def OpensF (P : Program) (fs : List Field) (off : Nat) {α : Type} (d : Kd α) (g : α → Prop) : Prop :=
  ∀ (H : Type) (enc : TypeId × Value → H) (w : World) (base : Nat) (spare : Nat → Bool) (held : Bool) (n : Nat) (cs : List Value) (xs : List (DataW H × List MemPlace)),
    cs.length = off + d.sz → xs.length = fs.length → (∀ (i : Nat) (f : Field), fs[i]? = some f → DataW.trod enc P w base spare held n f.type ((cs.drop f.offset).take (P.cellsOf f.type)) = xs[i]?) →
    (DataW.weightsEach P (fs.map (·.type)) (xs.map (·.1))).all (· ≤ reachBytes) = true → ∃ y : α, d.K w y (cs.drop off) ∧ g y
theorem opensF_one {f : Field} {off : Nat} {d : Kd α} {g : α → Prop} (ho : f.offset = off) (h : Opens P f.type d g) : OpensF P [f] off d g := by
  intro H enc w base spare held n cs xs hcs hxs ht hw
  match xs, hxs with
  | [x], _ =>
    have h1 := ht 0 f rfl
    rw [ho, h.1, List.take_of_length_le (by simp; omega)] at h1
    exact h.2 H enc w base spare held n (cs.drop off) x h1 (by simpa [DataW.weightsEach] using hw)
theorem opensF_cons {f : Field} {fs : List Field} {off : Nat} {a : Kd α} {b : Kd β} {g : α → Prop} {g' : β → Prop} (ho : f.offset = off) (h : Opens P f.type a g) (hr : OpensF P fs (off + a.sz) b g') :
    OpensF P (f :: fs) off (Kd.pair a b) (fun y => g y.1 ∧ g' y.2) := by
  intro H enc w base spare held n cs xs hcs hxs ht hw
  have hcs' : cs.length = off + (a.sz + b.sz) := hcs
  match xs, hxs with
  | x :: xs, hxs =>
    have h1 := ht 0 f rfl
    rw [ho, h.1] at h1
    rw [List.map_cons, List.map_cons, DataW.weightsEach, List.all_append, Bool.and_eq_true] at hw
    obtain ⟨y, hK, hg⟩ := h.2 H enc w base spare held n _ x h1 hw.1
    obtain ⟨z, hK', hg'⟩ := hr H enc w base spare held n cs xs (by omega) (by simpa using hxs) (fun i f hf => by simpa using ht (i + 1) f (by simpa using hf)) hw.2
    refine ⟨(y, z), ⟨_, _, ?_, hK, hK'⟩, hg, hg'⟩
    rw [← List.drop_drop, List.take_append_drop]
theorem opens_struct {fs : Array Field} {d : Kd α} {g : α → Prop} (hu : P.underlying t = some (.struct fs)) (hC : P.cellsOf t = d.sz) (h : OpensF P fs.toList 0 d g) : Opens P t d g := by
  refine ⟨hC, fun H enc w base spare held fuel cs x hx hw => ?_⟩
  obtain ⟨xs, n, rfl, rfl, hcs, hl, hi⟩ := DataW.trod_struct hu hx
  have := h H enc w base spare held n cs xs (by omega) (by simpa using hl) (fun i f hf => hi i f (by simpa using hf)) (by simpa [DataW.weights, hu] using hw)
  simpa using this
theorem opens_iso {d : Kd α} {g : α → Prop} (h : Opens P t d g) (f : β → α) (inv : α → β) (hi : ∀ a, f (inv a) = a) : Opens P t (Kd.iso d f) (fun b => g (f b)) := by
  refine ⟨h.1, fun H enc w base spare held fuel cs x hx hw => ?_⟩
  obtain ⟨y, hK, hg⟩ := h.2 H enc w base spare held fuel cs x hx hw
  refine ⟨inv y, ?_, ?_⟩
  · show d.K w (f (inv y)) cs
    rw [hi]
    exact hK
  · show g (f (inv y))
    rw [hi]
    exact hg
theorem opens_imp {d : Kd α} {g g' : α → Prop} (h : Opens P t d g) (hg : ∀ x, g x → g' x) : Opens P t d g' :=
  ⟨h.1, fun H enc w base spare held fuel cs x hx hw => let ⟨y, hK, hy⟩ := h.2 H enc w base spare held fuel cs x hx hw; ⟨y, hK, hg y hy⟩⟩
end
#print axioms opens_slice
#print axioms opens_struct
end Go.Proofs.YtdfhbmallnegfaaO
