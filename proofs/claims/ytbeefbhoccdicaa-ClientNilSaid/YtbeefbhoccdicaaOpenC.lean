/- A call, and a list of states, as arguments: opened. -/
import Derived.Deep.Slices
import Derived.Deep.Fields
import Derived.ChangeSame
import Derived.ChangeSlices
import Derived.Lib.SmallJoins
import Derived.Test.YtbeefbhoccdicaaCliW
namespace Go.Proofs.Ytbeefbhoccdicaa.OpenC
open Go.ChangeShapes Go.WideShapes Go.Deep Go.Joins
open Go.RowKit Go.Proofs.YtbeefbhoccdicaaW.PrintWords Go.Proofs.YtbeefbhoccdicaaW.PrintLast Go.Proofs.YtbeefbhoccdicaaW.PrintMore Go.Proofs.Ytbeefbhoccdicaa.QGraphReads
set_option linter.unusedVariables false
section
variable {H : Type} {enc : TypeId × Value → H} {P : Program} {w : World} {base : Nat} {spare : Nat → Bool} {held : Bool}

set_option maxRecDepth 100000 in
theorem open_call {v : Value} {d : DataW H} {p : List MemPlace} {r : Reach} {b0 : Nat} (hv : Value.okWide Try.prog w r b0 115 v) (h : DataW.Trod enc Try.prog w base spare held 115 v d p) :
    ∃ (k : Int) (s : ByteArray) (id : Int), v = .agg #[.int .i64 k, .string s, .int .i64 id] := by
  obtain ⟨v0, v1, v2, y0, y1, y2, n, rfl, _, _, h0, h1, h2⟩ := open_agg3 Try.underlying115 (by kernel_rfl) (by kernel_rfl) hv h
  obtain ⟨n0, he0, _, hw0⟩ := DataW.trod_int Try.underlying3 h0
  obtain ⟨s1, he1, _, hw1⟩ := DataW.trod_string Try.underlying9 h1
  obtain ⟨n2, he2, _, hw2⟩ := DataW.trod_int Try.underlying3 h2
  simp at he0 he1 he2
  subst he0 he1 he2
  exact ⟨n0, s1, n2, rfl⟩
set_option maxRecDepth 100000 in
theorem open_states {v : Value} {d : DataW H} {p : List MemPlace} {r : Reach} {b0 : Nat} (hv : Value.okWide Try.prog w r b0 110 v) (h : DataW.Trod enc Try.prog w base spare held 110 v d p) :
    ∃ (xs : List Int) (A : Option Addr) (c : Nat), v = .slice A xs.length c ∧ xs.length ≤ c ∧ Kd.C (Kd.int .i64) w A xs.length xs := by
  obtain ⟨a0, len0, cap0, rfl⟩ := okWide_slice Try.underlying110 hv
  obtain ⟨fuel, hf⟩ := h
  rcases open_ints Try.underlying110 Try.underlying3 (by kernel_rfl) hf with ⟨hcs, _⟩ | ⟨x, l, c, zs, hcs, _, hl, hm, hz, _, hcell, hwz⟩
  · simp [Value.cells] at hcs
    obtain ⟨rfl, rfl, rfl⟩ := hcs
    exact ⟨[], none, 0, rfl, Nat.le_refl _, Kd.C_nil _ _⟩
  · simp [Value.cells] at hcs
    obtain ⟨rfl, rfl, rfl⟩ := hcs
    have hzl : len0 ≤ zs.length := by rw [hz]; split <;> omega
    have hlen : (zs.take len0).length = len0 := List.length_take_of_le hzl
    refine ⟨zs.take len0, some x, cap0, by rw [hlen], by rw [hlen]; exact hl, ⟨by rw [hlen], by rw [hlen]; unfold maxLen at hm; omega, fun _ => ⟨x, rfl, ?_⟩⟩⟩
    intro j q hj
    have hjl : j < len0 := by have := (List.getElem?_eq_some_iff.1 hj).1; omega
    have hq : zs.getD j 0 = q := by
      rw [List.getElem?_take, if_pos hjl] at hj
      rw [List.getD_eq_getElem?_getD, hj]
      rfl
    refine ⟨[.int .i64 q], rfl, rfl, ?_⟩
    intro i u hiu
    have hlt := (List.getElem?_eq_some_iff.1 hiu).1
    have h0 : i = 0 := by simp at hlt; exact hlt
    subst h0
    have hu : Value.int .i64 q = u := by simpa using hiu
    rw [← hu, ← hq]
    have h3 := hcell j (by omega)
    show w.cell? (x.add (j * 1 + 0)) = _
    rw [Nat.mul_one, Nat.add_zero]
    exact h3
end
end Go.Proofs.Ytbeefbhoccdicaa.OpenC
