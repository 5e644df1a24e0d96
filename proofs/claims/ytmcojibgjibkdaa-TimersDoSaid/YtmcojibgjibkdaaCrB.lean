/-
  What is read of calls, as values of the interpreter.
-/
import Derived.Test.YtmcojibgjibkdaaCrV
namespace Go.Vi.CYtmcojibgjibkdaa
open Go.Vi Go.Proofs Go.Proofs.Ytmcojibgjibkdaa Go.RowKit
set_option linter.unusedVariables false
set_option maxRecDepth 100000

theorem w64_of {n : Int} (h : (Lit.int .i64 n).wf = true) : w64 n := by
  simp only [Lit.wf, Bool.and_eq_true, decide_eq_true_eq] at h
  exact ⟨h.1, h.2⟩
theorem ok_of {α : Type} {s : Sl α} {B : Nat} {p : α → Prop} (h : s.list.length ≤ maxLen ∧ s.list.length * B ≤ 140737488351232 ∧ ∀ x ∈ s.list, p x) : Sl.ok s ∧ ∀ y ∈ s.list, p y :=
  ⟨by have := h.1; unfold maxLen at this; unfold Sl.ok; omega, h.2.2⟩
theorem op_int : OpensV Try.prog 3 ⟨1, iv⟩ w64 := opensV_imp (opensV_int Try.underlying3 (by kernel_rfl)) fun _ h => w64_of h
theorem op_slice {α : Type} {t e : TypeId} {enc : α → VV} {sz B : Nat} {g : α → Prop} (ht : Try.prog.underlying t = some (.slice e)) (hC : Try.prog.cellsOf t = 1) (hB : Try.prog.bytesOf e = B) (hz : sz ≠ 0) (h : OpensV Try.prog e ⟨sz, enc⟩ g) :
    OpensV Try.prog t ⟨1, slV enc⟩ (fun s => Sl.ok s ∧ ∀ y ∈ s.list, g y) := opensV_imp (opensV_slice (d := ⟨sz, enc⟩) ht hC hB hz h) fun _ h => ok_of h
theorem cells_sl {α : Type} {enc : α → VV} {s : Sl α} : (slV enc s).cells = [slV enc s] := by cases s <;> rfl
theorem cells_int {k : IntKind} {n : Int} : (VV.int k n).cells = [.int k n] := rfl
theorem cells_str {b : ByteArray} : (VV.str b).cells = [.str b] := rfl
theorem cells_bool {b : Bool} : (VV.bool b).cells = [.bool b] := rfl
theorem op_as {α : Type} {t : TypeId} {d : Kv α} {g g' : α → Prop} {n : Nat} {enc : α → VV} (h : OpensV Try.prog t d g) (hg : ∀ x, g x → g' x) (hn : d.sz = n := by rfl) (hv : ∀ x, d.val x = enc x := by intro x; simp only [Kv.struct, Kf.pair, Kf.one, cells_sl, cells_int, cells_str, cells_bool, List.cons_append, List.nil_append]) : OpensV Try.prog t ⟨n, enc⟩ g' := by
  subst hn
  have e : d.val = enc := funext hv
  subst e
  exact opensV_imp h hg
theorem op_act : OpensV Try.prog 27 ⟨3, acV⟩ Ac.ok :=
  op_as (opensV_struct (f := fun x : Ac => (x.kind, x.key, x.n)) (inv := fun p => ⟨p.1, p.2.1, p.2.2⟩) (hi := fun _ => rfl) Try.underlying27 (by kernel_rfl)
    (opensVF_cons rfl op_int (opensVF_cons rfl op_int (opensVF_one rfl op_int)))) fun _ h => h
theorem op_acts : OpensV Try.prog 22 ⟨1, slV acV⟩ (fun s => Sl.ok s ∧ ∀ y ∈ s.list, y.ok) := op_slice Try.underlying22 (by kernel_rfl) rfl (by decide) op_act
theorem calm21 : ∀ f fn c, Try.prog.funcs[f]? = some fn → fn.body = some c → pol.dyn f = true ∨ staticOk c = true := allStatic_spec (P := Try.prog) (dyn := dyn21) (by kernel_rfl)
/-- from a contract to the machine's call -/
theorem topH {f : FuncId} {us : List VV} {b : Bool} (h : ∃ H', Runs Try.prog pol f (us.map .val) (Hp.bare 0) ([.val (.bool b)], [], H')) {W : World} {vals : List Value} (hl : vals.length = us.length) (hv : ∀ (i : Nat) (x : VV) (v : Value), us[i]? = some x → vals[i]? = some v → WR W x v) :
    Calls Try.prog f vals.toArray W fun e W' => e = .returned (.bool b) ∧ Below W.heap.size W W' := by
  obtain ⟨H', k, hk⟩ := h
  refine Calls.mono (callV_top (Checked.mixed Try.checked) calm21 ext_ok hk rfl hl hv) fun e W' he => ?_
  obtain ⟨v, rfl, hb, hr⟩ := he
  cases hr
  exact ⟨rfl, hb⟩
end Go.Vi.CYtmcojibgjibkdaa
