/- Arguments that are vertices and graphs, opened. -/
import Derived.Deep.Slices
import Derived.Deep.Fields
import Derived.ChangeSame
import Derived.Lib.SmallJoins
import Derived.Test.YtbeefbhoccdicaaBaseG
namespace Go.Proofs.Ytbeefbhoccdicaa.OpenG
open Go.ChangeShapes Go.WideShapes Go.Deep Go.Joins
open Go.RowKit Go.Proofs.YtbeefbhoccdicaaW.PrintWords Go.Proofs.YtbeefbhoccdicaaW.PrintLast Go.Proofs.YtbeefbhoccdicaaW.PrintMore Go.Proofs.Ytbeefbhoccdicaa.QGraphReads Go.Proofs.Ytbeefbhoccdicaa.WireNum Go.Proofs.Ytbeefbhoccdicaa.PutG
set_option linter.unusedVariables false
section
variable {H : Type} {enc : TypeId × Value → H} {P : Program} {w : World} {base : Nat} {spare : Nat → Bool} {held : Bool}
theorem open_slice_fields {t e : TypeId} {fs : Array Field} {fuel : Nat} {cs : List Value} {x : DataW H × List MemPlace} (ht : P.underlying t = some (.slice e)) (he : P.underlying e = some (.struct fs))
    (hone : oneCellFields P fs = true) (hC : P.cellsOf e = fs.size) (h : DataW.trod enc P w base spare held fuel t cs = some x) :
    (cs = [.slice none 0 0] ∧ x = (.nil, [])) ∨
    ∃ (a : Addr) (len cap : Nat), cs = [.slice (some a) len cap] ∧ len ≤ cap ∧ cap ≤ maxLen ∧
      ∀ i, i < len → ∃ n, ∀ (j : Nat) (f : Field), fs[j]? = some f → ∃ (v : Value) (y : DataW H × List MemPlace), w.cell? (a.add (i * fs.size + j)) = some v ∧ DataW.trod enc P w base spare held n f.type [v] = some y := by
  rcases open_slice ht h with h0 | ⟨a, len, cap, m, n, D, Pl, hcs, hb, hl, hm, hmm, hx, hi⟩
  · exact .inl h0
  · refine .inr ⟨a, len, cap, hcs, hl, hm, fun i hil => ?_⟩
    have him : i < m := by rw [hmm]; split <;> omega
    obtain ⟨cs', hc, ht'⟩ := hi i him
    rw [hC] at hc
    obtain ⟨ys, n', hn', hy, hlen, hyl, hf⟩ := DataW.trod_struct he ht'
    obtain ⟨_, hcl, hat⟩ := World.cells?_some hc
    refine ⟨n', fun j f hj => ?_⟩
    obtain ⟨ho, hk⟩ := hone_of hone j f hj
    have hjl : j < fs.size := (Array.getElem?_eq_some_iff.1 hj).1
    have hcell := hat j hjl
    have hv : cs'[j]? = some (cs'[j]'(by omega)) := List.getElem?_eq_getElem (by omega)
    have h1 := hf j f hj
    rw [ho, hk] at h1
    have hone' : (cs'.drop j).take 1 = [cs'[j]'(by omega)] := by
      rw [List.drop_eq_getElem_cons (by omega)]
      rfl
    rw [hone'] at h1
    have hys : ys[j]? = some (ys[j]'(by omega)) := List.getElem?_eq_getElem (by omega)
    refine ⟨_, _, ?_, h1.trans hys⟩
    rw [← Go.Deep.add_add, hcell, hv]

/-- A list of what is told place by place. -/
theorem choose_list {α : Type} (n : Nat) (Q : Nat → α → Prop) (h : ∀ i, i < n → ∃ x, Q i x) : ∃ xs : List α, xs.length = n ∧ ∀ i x, xs[i]? = some x → Q i x := by
  induction n with
  | zero => exact ⟨[], rfl, fun i x hx => by simp at hx⟩
  | succ n ih =>
    obtain ⟨xs, hl, hq⟩ := ih (fun i hi => h i (by omega))
    obtain ⟨x, hx⟩ := h n (by omega)
    refine ⟨xs ++ [x], by rw [List.length_append, hl]; rfl, fun i y hy => ?_⟩
    rw [List.getElem?_append] at hy
    split at hy
    · exact hq i y hy
    · rename_i hge
      have hi : i = n := by
        have := (List.getElem?_eq_some_iff.1 hy).1
        simp at this
        omega
      subst hi
      rw [hl, Nat.sub_self] at hy
      simp at hy
      subst hy
      exact hx

theorem in_wf {n : Int} (h : (Lit.int .i64 n).wf = true) : In n := by
  exact bounds_i64 h

set_option maxRecDepth 100000 in
theorem open_edges {fuel : Nat} {A : Option Addr} {len cap : Nat} {x : DataW H × List MemPlace} (h : DataW.trod enc Try.prog w base spare held fuel 51 [.slice A len cap] = some x) :
    ∃ es : List S67, es.length = len ∧ len ≤ cap ∧ Kd.C k67 w A len es ∧ ∀ e ∈ es, EdgeIn e := by
  rcases open_slice_fields Try.underlying51 Try.underlying67 (by kernel_rfl) (by kernel_rfl) h with ⟨hcs, _⟩ | ⟨a, l, c, hcs, hl, hm, hi⟩
  · simp at hcs
    obtain ⟨rfl, rfl, rfl⟩ := hcs
    exact ⟨[], rfl, Nat.le_refl _, Kd.C_nil _ _, fun e he => by cases he⟩
  · simp at hcs
    obtain ⟨rfl, rfl, rfl⟩ := hcs
    obtain ⟨es, hel, hq⟩ := choose_list len (fun i (e : S67) => EdgeIn e ∧ w.cell? (a.add (i * 2)) = some (.int .i64 e.f0) ∧ w.cell? (a.add (i * 2 + 1)) = some (.int .i64 e.f1)) (by
      intro i hil
      obtain ⟨n, hf⟩ := hi i hil
      obtain ⟨v0, y0, hc0, ht0⟩ := hf 0 _ rfl
      obtain ⟨v1, y1, hc1, ht1⟩ := hf 1 _ rfl
      obtain ⟨n0, he0, _, hw0⟩ := DataW.trod_int Try.underlying2 ht0
      obtain ⟨n1, he1, _, hw1⟩ := DataW.trod_int Try.underlying2 ht1
      simp at he0 he1
      subst he0 he1
      exact ⟨⟨n0, n1⟩, ⟨in_wf hw0, in_wf hw1⟩, hc0, hc1⟩)
    refine ⟨es, hel, hl, ⟨hel, by unfold maxLen at hm; omega, fun _ => ⟨a, rfl, ?_⟩⟩, ?_⟩
    · intro j p hj
      obtain ⟨_, h0, h1⟩ := hq j p hj
      refine ⟨_, rfl, k67_mk w p, ?_⟩
      intro i u hiu
      have hlt := (List.getElem?_eq_some_iff.1 hiu).1
      have h2 : i = 0 ∨ i = 1 := by simp at hlt; omega
      rcases h2 with rfl | rfl
      · have : Value.int .i64 p.f0 = u := by simpa using hiu
        subst this
        exact h0
      · have : Value.int .i64 p.f1 = u := by simpa using hiu
        subst this
        exact h1
    · intro e he
      obtain ⟨i, hi2⟩ := List.getElem?_of_mem he
      exact (hq i e hi2).1

set_option maxRecDepth 100000 in
theorem open_vertex {v : Value} {d : DataW H} {p : List MemPlace} {r : Reach} {b0 : Nat} (hv : Value.okWide Try.prog w r b0 53 v) (h : DataW.Trod enc Try.prog w base spare held 53 v d p) :
    ∃ (x : S53) (A : Option Addr) (c : Nat), v = .agg #[.int .i64 x.f0, .int .i64 x.f1, .slice A x.f2.length c] ∧ x.f2.length ≤ c ∧ Kd.C k67 w A x.f2.length x.f2 ∧ VertIn x := by
  obtain ⟨v0, v1, v2, y0, y1, y2, n, rfl, _, _, h0, h1, h2⟩ := open_agg3 Try.underlying53 (by kernel_rfl) (by kernel_rfl) hv h
  obtain ⟨n0, he0, _, hw0⟩ := DataW.trod_int Try.underlying2 h0
  obtain ⟨n1, he1, _, hw1⟩ := DataW.trod_int Try.underlying2 h1
  simp at he0 he1
  subst he0 he1
  obtain ⟨A, l, c, he⟩ := slice_form Try.underlying51 h2
  simp at he
  subst he
  obtain ⟨es, rfl, hl, hC, hE⟩ := open_edges h2
  exact ⟨⟨n0, n1, es⟩, A, c, rfl, hl, hC, ⟨in_wf hw0, in_wf hw1, hE⟩⟩
end
end Go.Proofs.Ytbeefbhoccdicaa.OpenG
