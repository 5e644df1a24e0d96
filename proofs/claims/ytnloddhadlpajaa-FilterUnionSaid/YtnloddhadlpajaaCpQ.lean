/-
  Texts in order, byte by byte.
-/
import Derived.Test.YtnloddhadlpajaaCpP
import Derived.Test.YtnloddhadlpajaaCpA
import Derived.Laws.StructEq
namespace Go.Vi.CYtnloddhadlpajaa
open Go.Vi
theorem bl_irr : ∀ a : List UInt8, Op.bytesLess a a = false
  | [] => rfl
  | x :: a => by
    rw [Op.bytesLess, bl_irr a]
    simp
theorem u_lt {a b : UInt8} : (a < b) ↔ a.toNat < b.toNat := Iff.rfl
theorem bl_trans : ∀ a b c : List UInt8, Op.bytesLess a b = true → Op.bytesLess b c = true → Op.bytesLess a c = true
  | _, [], _, h, _ => by simp [Op.bytesLess] at h
  | _, _ :: _, [], _, h => by simp [Op.bytesLess] at h
  | [], y :: b, z :: c, _, _ => rfl
  | x :: a, y :: b, z :: c, h, h2 => by
    simp only [Op.bytesLess, Bool.or_eq_true, decide_eq_true_eq, Bool.and_eq_true, beq_iff_eq, u_lt] at *
    rcases h with h | ⟨rfl, h⟩
    · rcases h2 with h2 | ⟨rfl, h2⟩
      · exact .inl (by omega)
      · exact .inl h
    · rcases h2 with h2 | ⟨rfl, h2⟩
      · exact .inl h2
      · exact .inr ⟨rfl, bl_trans a b c h h2⟩
theorem bl_tot : ∀ a b : List UInt8, Op.bytesLess a b = false → Op.bytesLess b a = false → a = b
  | [], [], _, _ => rfl
  | [], y :: b, h, _ => by simp [Op.bytesLess] at h
  | x :: a, [], _, h => by simp [Op.bytesLess] at h
  | x :: a, y :: b, h, h2 => by
    simp only [Op.bytesLess, Bool.or_eq_false_iff, decide_eq_false_iff_not, Bool.and_eq_false_iff, u_lt] at *
    have e : x = y := UInt8.toNat_inj.1 (by omega)
    subst e
    have h3 : Op.bytesLess a b = false := by rcases h.2 with h | h <;> simp_all
    have h4 : Op.bytesLess b a = false := by rcases h2.2 with h | h <;> simp_all
    rw [bl_tot a b h3 h4]
def ltB (a b : ByteArray) : Bool := Op.bytesLess a.toList b.toList
theorem ltB_o : StrictO ltB := ⟨fun a => bl_irr _, fun a b c => bl_trans _ _ _, fun a b h h2 => by
  have := bl_tot _ _ h h2
  rw [ByteArray.toList_eq, ByteArray.toList_eq] at this
  exact ByteArray.ext (Array.ext' this)⟩
end Go.Vi.CYtnloddhadlpajaa
