/- A vertex's input, opened: each place holds one cell. -/
import Derived.Test.YtbeefbhoccdicaaOpenK
import Derived.OpenShut
namespace Go.Proofs.Ytbeefbhoccdicaa.OpenK2
open Go.ChangeShapes Go.WideShapes Go.Deep Go.Joins
open Go.RowKit Go.Proofs.YtbeefbhoccdicaaW.PrintWords Go.Proofs.YtbeefbhoccdicaaW.PrintLast Go.Proofs.YtbeefbhoccdicaaW.PrintMore Go.Proofs.Ytbeefbhoccdicaa.QGraphReads
set_option linter.unusedVariables false
section
variable {H : Type} {enc : TypeId × Value → H} {P : Program} {w : World} {base : Nat} {spare : Nat → Bool} {held : Bool}

theorem bools_one {fuel : Nat} {a b c d e : Value} {x : DataW H × List MemPlace} (h : DataW.trod enc Try.prog w base spare held fuel 76 [a, b, c, d, e] = some x) : a.oneCell' = true ∧ b.oneCell' = true ∧ c.oneCell' = true ∧ d.oneCell' = true ∧ e.oneCell' = true := by
  have e4 : Try.prog.cellsOf 4 = 1 := by kernel_rfl
  obtain ⟨xs, m, _, _, _, hlen, hg⟩ := DataW.trod_array Try.underlying76 h
  rw [e4] at hg
  match xs, hlen with
  | [y0, y1, y2, y3, y4], _ =>
    have g0 := hg 0 (by omega)
    have g1 := hg 1 (by omega)
    have g2 := hg 2 (by omega)
    have g3 := hg 3 (by omega)
    have g4 := hg 4 (by omega)
    simp at g0 g1 g2 g3 g4
    obtain ⟨b0, h0, _⟩ := DataW.trod_bool Try.underlying4 g0
    obtain ⟨b1, h1, _⟩ := DataW.trod_bool Try.underlying4 g1
    obtain ⟨b2, h2, _⟩ := DataW.trod_bool Try.underlying4 g2
    obtain ⟨b3, h3, _⟩ := DataW.trod_bool Try.underlying4 g3
    obtain ⟨b4, h4, _⟩ := DataW.trod_bool Try.underlying4 g4
    simp at h0 h1 h2 h3 h4
    subst h0 h1 h2 h3 h4
    exact ⟨rfl, rfl, rfl, rfl, rfl⟩
theorem ints_one {fuel : Nat} {a b c d e : Value} {x : DataW H × List MemPlace} (h : DataW.trod enc Try.prog w base spare held fuel 77 [a, b, c, d, e] = some x) : a.oneCell' = true ∧ b.oneCell' = true ∧ c.oneCell' = true ∧ d.oneCell' = true ∧ e.oneCell' = true := by
  have e4 : Try.prog.cellsOf 2 = 1 := by kernel_rfl
  obtain ⟨xs, m, _, _, _, hlen, hg⟩ := DataW.trod_array Try.underlying77 h
  rw [e4] at hg
  match xs, hlen with
  | [y0, y1, y2, y3, y4], _ =>
    have g0 := hg 0 (by omega)
    have g1 := hg 1 (by omega)
    have g2 := hg 2 (by omega)
    have g3 := hg 3 (by omega)
    have g4 := hg 4 (by omega)
    simp at g0 g1 g2 g3 g4
    obtain ⟨b0, h0, _⟩ := DataW.trod_int Try.underlying2 g0
    obtain ⟨b1, h1, _⟩ := DataW.trod_int Try.underlying2 g1
    obtain ⟨b2, h2, _⟩ := DataW.trod_int Try.underlying2 g2
    obtain ⟨b3, h3, _⟩ := DataW.trod_int Try.underlying2 g3
    obtain ⟨b4, h4, _⟩ := DataW.trod_int Try.underlying2 g4
    simp at h0 h1 h2 h3 h4
    subst h0 h1 h2 h3 h4
    exact ⟨rfl, rfl, rfl, rfl, rfl⟩

set_option maxRecDepth 100000 in
theorem input_one {c0 c1 c2 c3 c4 c5 c6 c7 c8 c9 c10 c11 c12 c13 c14 c15 c16 c17 : Value} {d : DataW H} {p : List MemPlace} (h : DataW.Trod enc Try.prog w base spare held 81 (.agg #[c0, c1, c2, c3, c4, c5, c6, c7, c8, c9, c10, c11, c12, c13, c14, c15, c16, c17]) d p) :
    c4.oneCell' = true ∧ (c6.oneCell' = true ∧ c7.oneCell' = true ∧ c8.oneCell' = true ∧ c9.oneCell' = true ∧ c10.oneCell' = true) ∧ (c11.oneCell' = true ∧ c12.oneCell' = true ∧ c13.oneCell' = true ∧ c14.oneCell' = true ∧ c15.oneCell' = true) ∧ c16.oneCell' = true := by
  obtain ⟨fuel, hf⟩ := h
  obtain ⟨xs, n, _, hx, hcl, hlen, hg⟩ := DataW.trod_struct Try.underlying81 hf
  match xs, hlen with
  | [y0, y1, y2, y3, y4, y5, y6], _ =>
    have h2 := hg 2 _ rfl
    have h4 := hg 4 _ rfl
    have h5 := hg 5 _ rfl
    have e4 : Try.prog.cellsOf 4 = 1 := by kernel_rfl
    have e79 : Try.prog.cellsOf 79 = 10 := by kernel_rfl
    have e3 : Try.prog.cellsOf 3 = 1 := by kernel_rfl
    have e76 : Try.prog.cellsOf 76 = 5 := by kernel_rfl
    have e77 : Try.prog.cellsOf 77 = 5 := by kernel_rfl
    simp [Value.cells, e4] at h2
    simp [Value.cells, e79] at h4
    simp [Value.cells, e3] at h5
    obtain ⟨b, hb, _⟩ := DataW.trod_bool Try.underlying4 h2
    obtain ⟨i, hi, _⟩ := DataW.trod_int Try.underlying3 h5
    obtain ⟨z0, z1, m, _, _, g0, g1⟩ := trod_struct2 Try.underlying79 h4
    simp [e76] at g0
    simp [e77] at g1
    simp at hb hi
    subst hb hi
    exact ⟨rfl, bools_one g0, ints_one g1, rfl⟩
end
end Go.Proofs.Ytbeefbhoccdicaa.OpenK2
