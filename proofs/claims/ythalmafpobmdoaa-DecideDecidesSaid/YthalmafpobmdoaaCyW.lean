/-
  What is read of states, events and commands, as values of the interpreter.
-/
import Derived.Test.YthalmafpobmdoaaCxM
import Derived.Test.YthalmafpobmdoaaCyM
import Derived.Test.YthalmafpobmdoaaCyZ
namespace Go.Vi.CYthalmafpobmdoaa
open Go.Vi Go.Proofs Go.Proofs.Ythalmafpobmdoaa Go.RowKit
set_option linter.unusedVariables false
set_option maxRecDepth 100000

theorem op_ints : OpensV Try.prog 23 ⟨1, slV iv⟩ (fun s => (Sl.ok s ∧ Sl.fit s) ∧ ∀ y ∈ s.list, w64 y) :=
  opensV_imp (opensV_slice (d := ⟨1, iv⟩) (B := 8) Try.underlying23 (by kernel_rfl) rfl (by decide) op_int) fun s h => ⟨⟨by have := h.1; unfold maxLen at this; unfold Sl.ok; omega, by have := h.2.1; unfold Sl.fit; omega⟩, h.2.2⟩
theorem op_stt : OpensV Try.prog 28 ⟨3, sttV⟩ (fun s => s.ok ∧ Sl.fit s.vars) :=
  op_as (opensV_struct (f := fun x : Stt => (x.at', x.ver, x.vars)) (inv := fun p => ⟨p.1, p.2.1, p.2.2⟩) (hi := fun _ => rfl) Try.underlying28 (by kernel_rfl)
    (opensVF_cons rfl op_int (opensVF_cons rfl op_int (opensVF_one rfl op_ints)))) fun s h => ⟨⟨h.1, h.2.1, h.2.2.1.1, h.2.2.2⟩, h.2.2.1.2⟩
theorem op_ev : OpensV Try.prog 44 ⟨2, evV⟩ Ev.ok :=
  op_as (opensV_struct (f := fun x : Ev => (x.at', x.vars)) (inv := fun p => ⟨p.1, p.2⟩) (hi := fun _ => rfl) Try.underlying44 (by kernel_rfl)
    (opensVF_cons rfl op_int (opensVF_one rfl op_ints))) fun s h => ⟨h.1, h.2.1.1, h.2.1.2, h.2.2⟩
theorem op_evs : OpensV Try.prog 31 ⟨1, slV evV⟩ (fun s => Sl.ok s ∧ ∀ y ∈ s.list, y.ok) := op_slice Try.underlying31 (by kernel_rfl) rfl (by decide) op_ev
theorem op_cm : OpensV Try.prog 30 ⟨6, cmV⟩ Cm.ok :=
  op_as (opensV_struct (f := fun x : Cm => (x.client, x.seq, x.stream, x.rule, x.args, x.exp)) (inv := fun p => ⟨p.1, p.2.1, p.2.2.1, p.2.2.2.1, p.2.2.2.2.1, p.2.2.2.2.2⟩) (hi := fun _ => rfl) Try.underlying30 (by kernel_rfl)
    (opensVF_cons rfl op_int (opensVF_cons rfl op_int (opensVF_cons rfl op_str (opensVF_cons rfl op_int (opensVF_cons rfl op_ints (opensVF_one rfl op_int))))))) fun s h => ⟨h.1, h.2.1, h.2.2.1, h.2.2.2.1, ⟨h.2.2.2.2.1.1.1, h.2.2.2.2.1.2⟩, h.2.2.2.2.2⟩
theorem op_cms : OpensV Try.prog 46 ⟨1, slV cmV⟩ (fun s => Sl.ok s ∧ ∀ y ∈ s.list, y.ok) := op_slice Try.underlying46 (by kernel_rfl) rfl (by decide) op_cm
theorem u8_of {n : Int} (h : (Lit.int .u8 n).wf = true) : 0 ≤ n ∧ n ≤ 255 := by
  simp only [Lit.wf, Bool.and_eq_true, decide_eq_true_eq] at h
  exact ⟨h.1, h.2⟩
structure Fr4 where
  t : Tb
  s : Stt
  c : Cm
  o : Cm
theorem op_four : OpensV Try.prog 53 ⟨19, fun x : Fr4 => fourV x.t x.s x.c x.o⟩ (fun x => x.t.ok ∧ x.s.ok ∧ x.c.ok ∧ x.o.ok) :=
  op_as (opensV_struct (f := fun x : Fr4 => (x.t, x.s, x.c, x.o)) (inv := fun p => ⟨p.1, p.2.1, p.2.2.1, p.2.2.2⟩) (hi := fun _ => rfl) Try.underlying53 (by kernel_rfl)
    (opensVF_cons rfl op_tb (opensVF_cons rfl op_stt (opensVF_cons rfl op_cm (opensVF_one rfl op_cm))))) (fun x h => ⟨h.1, h.2.1.1, h.2.2.1, h.2.2.2⟩) rfl (fun _ => rfl)
end Go.Vi.CYthalmafpobmdoaa
