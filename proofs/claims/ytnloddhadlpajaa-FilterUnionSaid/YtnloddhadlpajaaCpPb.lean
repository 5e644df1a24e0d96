/-
  What is doubled beside itself falls out: of texts in order, each once.
-/
import Derived.Test.YtnloddhadlpajaaCpQ
namespace Go.Vi.CYtnloddhadlpajaa
open Go.Vi Go.Lib
section
variable {α : Type} [Inhabited α] [DecidableEq α]
theorem mem_compact {z : α} {l : List α} : z ∈ compact l ↔ z ∈ l := by
  unfold compact compactUpTo
  rw [List.mem_map]
  constructor
  · rintro ⟨j, hj, rfl⟩
    rw [List.mem_filter, List.mem_range] at hj
    have hl : j < l.length := hj.1
    rw [getElem!_pos l.toArray j (by simpa using hl)]
    simp
  · intro hz
    obtain ⟨i, hi, rfl⟩ := List.getElem_of_mem hz
    have key : ∀ i (hi : i < l.length), ∃ j, j ∈ (List.range l.length).filter (keeps l.toArray) ∧ l.toArray[j]! = l[i] := by
      intro i
      induction i with
      | zero => exact fun hi => ⟨0, by rw [List.mem_filter, List.mem_range]; exact ⟨hi, by simp [keeps]⟩, by simp [hi]⟩
      | succ i ih =>
        intro hi
        by_cases hk : keeps l.toArray (i + 1) = true
        · exact ⟨i + 1, by rw [List.mem_filter, List.mem_range]; exact ⟨hi, hk⟩, by simp [hi]⟩
        · obtain ⟨j, h1, h2⟩ := ih (by omega)
          refine ⟨j, h1, h2.trans ?_⟩
          have hi' : i < l.length := by omega
          simp [keeps, hi, hi'] at hk
          exact hk.symm
    exact key i hi
theorem up_compact {lt : α → α → Bool} (o : StrictO lt) {l : List α} (h : Asc lt l) : Up lt (compact l) := by
  unfold compact compactUpTo
  unfold Up
  rw [List.pairwise_map, List.pairwise_filter]
  refine List.pairwise_lt_range.imp_of_mem ?_
  intro i j hi hj hij h1 h2
  rw [List.mem_range] at hi hj
  rw [getElem!_pos l.toArray i (by simpa using hi), getElem!_pos l.toArray j (by simpa using hj)]
  simp only [List.getElem_toArray]
  have hp := List.pairwise_iff_getElem.1 h
  have hj1 : j - 1 < l.length := by omega
  have hne : ¬ l[j] = l[j - 1] := by
    simp only [keeps, decide_eq_true_eq] at h2
    rcases h2 with h2 | h2
    · omega
    · rwa [getElem!_pos l.toArray j (by simpa using hj), getElem!_pos l.toArray (j - 1) (by simpa using hj1)] at h2
  have hs : lt l[j - 1] l[j] = true := by
    cases hx : lt l[j - 1] l[j] with
    | true => rfl
    | false => exact absurd (o.tot _ _ hx (hp (j - 1) j hj1 hj (by omega))).symm hne
  by_cases he : i = j - 1
  · subst he; exact hs
  · have h3 := hp i (j - 1) hi hj1 (by omega)
    cases hx : lt l[i] l[j - 1] with
    | true => exact o.trans _ _ _ hx hs
    | false => rw [o.tot _ _ hx h3]; exact hs
end
theorem ofL_to (a : ByteArray) : ofL a.toList = a := by
  rw [ByteArray.toList_eq]; rfl
theorem to_ofL (l : List UInt8) : (ofL l).toList = l := by
  rw [ByteArray.toList_eq]; rfl
theorem bl_o : StrictO Op.bytesLess := ⟨bl_irr, bl_trans, bl_tot⟩
theorem mem_compB {z : ByteArray} {l : List ByteArray} : z ∈ compB l ↔ z ∈ l := by
  unfold compB
  rw [List.mem_map]
  constructor
  · rintro ⟨a, ha, rfl⟩
    rw [mem_compact, List.mem_map] at ha
    obtain ⟨b, hb, rfl⟩ := ha
    rw [ofL_to]; exact hb
  · intro hz
    exact ⟨z.toList, mem_compact.2 (List.mem_map_of_mem hz), ofL_to z⟩
theorem up_compB {l : List ByteArray} (h : Asc ltB l) : Up ltB (compB l) := by
  unfold compB
  unfold Up
  rw [List.pairwise_map]
  have h2 : Asc Op.bytesLess (l.map ByteArray.toList) := by
    unfold Asc
    rw [List.pairwise_map]
    exact h
  refine (up_compact bl_o h2).imp fun hab => ?_
  unfold ltB
  rw [to_ofL, to_ofL]; exact hab
/-- the program's way: sorted, each once, what is kept; and the reference's: put in one by one -/
theorem leastB_eq {l s : List ByteArray} (hs : Asc ltB s) (hp : s.Perm l) (keep : ByteArray → Bool) : (compB s).filter keep = leastF ltB keep l [] := by
  have h := leastF_is ltB_o keep l [] List.Pairwise.nil
  refine Up.eq ltB_o ((up_compB hs).filter _) h.1 fun z => ?_
  rw [h.2 z, List.mem_filter, mem_compB, hp.mem_iff]
  simp
end Go.Vi.CYtnloddhadlpajaa
