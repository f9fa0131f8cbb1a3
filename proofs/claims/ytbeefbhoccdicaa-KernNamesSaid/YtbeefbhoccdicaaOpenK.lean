/- A vertex's input, opened: its number, its edges, its messages; and how many edges there may be. -/
import Derived.Test.YtbeefbhoccdicaaRows
import Derived.Test.YtbeefbhoccdicaaOpenG
import Derived.Test.YtbeefbhoccdicaaKernM
namespace Go.Proofs.Ytbeefbhoccdicaa.OpenK
open Go.ChangeShapes Go.WideShapes Go.Deep Go.Joins
open Go.RowKit Go.Proofs.YtbeefbhoccdicaaW.PrintWords Go.Proofs.YtbeefbhoccdicaaW.PrintLast Go.Proofs.YtbeefbhoccdicaaW.PrintMore Go.Proofs.Ytbeefbhoccdicaa.QGraphReads Go.Proofs.Ytbeefbhoccdicaa.WireNum Go.Proofs.Ytbeefbhoccdicaa.PutG Go.Proofs.Ytbeefbhoccdicaa.OpenG Go.Proofs.Ytbeefbhoccdicaa.KernM
set_option linter.unusedVariables false
section
variable {H : Type} {enc : TypeId × Value → H} {P : Program} {w : World} {base : Nat} {spare : Nat → Bool} {held : Bool}

theorem length_bulk (l : List (DataW H)) : l.length ≤ Rows.uptoBulkAll l := by
  induction l with
  | nil => simp [Rows.uptoBulkAll]
  | cons x r ih =>
    have : 1 ≤ Rows.uptoBulk x := by
      cases x with
      | lit l => cases l <;> simp [Rows.uptoBulk]
      | nil => simp [Rows.uptoBulk]
      | ptr d => simp [Rows.uptoBulk]
      | slice elems spare => simp [Rows.uptoBulk]
      | agg parts => simp [Rows.uptoBulk]
      | iface t d => simp [Rows.uptoBulk]
      | map entries => simp [Rows.uptoBulk]
      | held h => simp [Rows.uptoBulk]
    simp only [Rows.uptoBulkAll, List.length_cons]
    omega

set_option maxRecDepth 100000 in
theorem edges_bulk {fuel : Nat} {A : Option Addr} {len cap : Nat} {x : DataW H × List MemPlace} (h : DataW.trod enc Try.prog w base spare held fuel 51 [.slice A len cap] = some x) : len ≤ Rows.uptoBulk x.1 := by
  rcases open_slice Try.underlying51 h with ⟨hcs, _⟩ | ⟨a, l, c, m, n, D, Pl, hcs, _, hl, hm, hmm, hx, _⟩
  · simp at hcs
    obtain ⟨rfl, rfl, rfl⟩ := hcs
    omega
  · simp at hcs
    obtain ⟨rfl, rfl, rfl⟩ := hcs
    rw [hx]
    simp only [Rows.uptoBulk]
    have := length_bulk ((List.range len).map D)
    rw [List.length_map, List.length_range] at this
    omega

set_option maxRecDepth 100000 in
theorem open_msgs {fuel : Nat} {A : Option Addr} {len cap : Nat} {x : DataW H × List MemPlace} (h : DataW.trod enc Try.prog w base spare held fuel 75 [.slice A len cap] = some x) :
    ∃ es : List S4, es.length = len ∧ len ≤ cap ∧ Kd.C k4 w A len es := by
  rcases open_slice_fields Try.underlying75 Try.underlying86 (by kernel_rfl) (by kernel_rfl) h with ⟨hcs, _⟩ | ⟨a, l, c, hcs, hl, hm, hi⟩
  · simp at hcs
    obtain ⟨rfl, rfl, rfl⟩ := hcs
    exact ⟨[], rfl, Nat.le_refl _, Kd.C_nil _ _⟩
  · simp at hcs
    obtain ⟨rfl, rfl, rfl⟩ := hcs
    obtain ⟨es, hel, hq⟩ := choose_list len (fun i (e : S4) => w.cell? (a.add (i * 4)) = some (.int .i64 e.f0) ∧ w.cell? (a.add (i * 4 + 1)) = some (.int .i64 e.f1) ∧ w.cell? (a.add (i * 4 + 2)) = some (.int .i64 e.f2) ∧ w.cell? (a.add (i * 4 + 3)) = some (.int .i64 e.f3)) (by
      intro i hil
      obtain ⟨n, hf⟩ := hi i hil
      obtain ⟨v0, y0, hc0, ht0⟩ := hf 0 _ rfl
      obtain ⟨v1, y1, hc1, ht1⟩ := hf 1 _ rfl
      obtain ⟨v2, y2, hc2, ht2⟩ := hf 2 _ rfl
      obtain ⟨v3, y3, hc3, ht3⟩ := hf 3 _ rfl
      obtain ⟨n0, he0, _, hw0⟩ := DataW.trod_int Try.underlying2 ht0
      obtain ⟨n1, he1, _, hw1⟩ := DataW.trod_int Try.underlying2 ht1
      obtain ⟨n2, he2, _, hw2⟩ := DataW.trod_int Try.underlying3 ht2
      obtain ⟨n3, he3, _, hw3⟩ := DataW.trod_int Try.underlying2 ht3
      simp at he0 he1 he2 he3
      subst he0 he1 he2 he3
      exact ⟨⟨n0, n1, n2, n3⟩, hc0, hc1, hc2, hc3⟩)
    refine ⟨es, hel, hl, ⟨hel, by unfold maxLen at hm; omega, fun _ => ⟨a, rfl, ?_⟩⟩⟩
    intro j p hj
    obtain ⟨h0, h1, h2, h3⟩ := hq j p hj
    refine ⟨[.int .i64 p.f0, .int .i64 p.f1, .int .i64 p.f2, .int .i64 p.f3], rfl, ⟨[.int .i64 p.f0], [.int .i64 p.f1, .int .i64 p.f2, .int .i64 p.f3], rfl, rfl, ⟨[.int .i64 p.f1], [.int .i64 p.f2, .int .i64 p.f3], rfl, rfl, ⟨[.int .i64 p.f2], [.int .i64 p.f3], rfl, rfl, rfl⟩⟩⟩, ?_⟩
    intro i u hiu
    have hlt := (List.getElem?_eq_some_iff.1 hiu).1
    have h5 : i = 0 ∨ i = 1 ∨ i = 2 ∨ i = 3 := by simp at hlt; omega
    rcases h5 with rfl | rfl | rfl | rfl
    · have : Value.int .i64 p.f0 = u := by simpa using hiu
      subst this
      exact h0
    · have : Value.int .i64 p.f1 = u := by simpa using hiu
      subst this
      exact h1
    · have : Value.int .i64 p.f2 = u := by simpa using hiu
      subst this
      exact h2
    · have : Value.int .i64 p.f3 = u := by simpa using hiu
      subst this
      exact h3

theorem array18 {α : Type} {cs : Array α} (h : cs.size = 18) : ∃ c0 c1 c2 c3 c4 c5 c6 c7 c8 c9 c10 c11 c12 c13 c14 c15 c16 c17, cs = #[c0, c1, c2, c3, c4, c5, c6, c7, c8, c9, c10, c11, c12, c13, c14, c15, c16, c17] := by
  obtain ⟨l⟩ := cs
  match l, h with
  | [c0, c1, c2, c3, c4, c5, c6, c7, c8, c9, c10, c11, c12, c13, c14, c15, c16, c17], _ => exact ⟨c0, c1, c2, c3, c4, c5, c6, c7, c8, c9, c10, c11, c12, c13, c14, c15, c16, c17, rfl⟩

set_option maxRecDepth 100000 in
theorem open_input {v : Value} {d : DataW H} {p : List MemPlace} {r : Reach} {b0 : Nat} (hv : Value.okWide Try.prog w r b0 81 v) (h : DataW.Trod enc Try.prog w base spare held 81 v d p) :
    ∃ (st id val : Int) (L : List S67) (A : Option Addr) (c : Nat) (M : List S4) (B : Option Addr) (cb : Nat) (X : Option Addr) (nx cx : Nat) (c4 c6 c7 c8 c9 c10 c11 c12 c13 c14 c15 c16 : Value),
      v = .agg #[.int .i64 st, .int .i64 id, .int .i64 val, .slice A L.length c, c4, .slice B M.length cb, c6, c7, c8, c9, c10, c11, c12, c13, c14, c15, c16, .slice X nx cx] ∧
      L.length ≤ c ∧ Kd.C k67 w A L.length L ∧ M.length ≤ cb ∧ Kd.C k4 w B M.length M ∧ In st ∧ In val ∧ L.length ≤ Rows.uptoBulk d := by
  obtain ⟨cs, rfl, hsz⟩ := okWide_struct Try.underlying81 hv
  have hC : Try.prog.cellsOf 81 = 18 := by kernel_rfl
  obtain ⟨c0, c1, c2, c3, c4, c5, c6, c7, c8, c9, c10, c11, c12, c13, c14, c15, c16, c17, rfl⟩ := array18 (hsz.trans hC)
  obtain ⟨fuel, hf⟩ := h
  obtain ⟨xs, n, _, hx, hcl, hlen, hg⟩ := DataW.trod_struct Try.underlying81 hf
  match xs, hlen with
  | [y0, y1, y2, y3, y4, y5, y6], _ =>
    have h0 := hg 0 _ rfl
    have h1 := hg 1 _ rfl
    have h3 := hg 3 _ rfl
    have h6 := hg 6 _ rfl
    have e3 : Try.prog.cellsOf 3 = 1 := by kernel_rfl
    have e53 : Try.prog.cellsOf 53 = 3 := by kernel_rfl
    have e75 : Try.prog.cellsOf 75 = 1 := by kernel_rfl
    have e65 : Try.prog.cellsOf 65 = 1 := by kernel_rfl
    simp [Value.cells, e3] at h0
    simp [Value.cells, e53] at h1
    simp [Value.cells, e75] at h3
    simp [Value.cells, e65] at h6
    obtain ⟨n0, he0, _, hw0⟩ := DataW.trod_int Try.underlying3 h0
    obtain ⟨z0, z1, z2, m, hy1, _, g0, g1, g2⟩ := trod_struct3 Try.underlying53 h1
    have e2 : Try.prog.cellsOf 2 = 1 := by kernel_rfl
    have e51 : Try.prog.cellsOf 51 = 1 := by kernel_rfl
    simp [e2] at g0
    simp [e2] at g1
    simp [e51] at g2
    obtain ⟨n1, he1, _, hw1⟩ := DataW.trod_int Try.underlying2 g0
    obtain ⟨n2, he2, _, hw2⟩ := DataW.trod_int Try.underlying2 g1
    obtain ⟨A, lA, c, he3⟩ := slice_form Try.underlying51 g2
    obtain ⟨B, lB, cb, he5⟩ := slice_form Try.underlying75 h3
    obtain ⟨X, lX, cx, he17⟩ := slice_form Try.underlying65 h6
    simp at he0 he1 he2 he3 he5 he17
    subst he0 he1 he2 he3 he5 he17
    obtain ⟨L, rfl, hl, hCC, _⟩ := open_edges g2
    obtain ⟨M, rfl, hm, hCM⟩ := open_msgs h3
    have hb := edges_bulk g2
    simp only [Prod.mk.injEq] at hx
    refine ⟨n0, n1, n2, L, A, c, M, B, cb, X, lX, cx, c4, c6, c7, c8, c9, c10, c11, c12, c13, c14, c15, c16, rfl, hl, hCC, hm, hCM, in_wf hw0, in_wf hw2, ?_⟩
    rw [hx.1]
    have q1 : y1.1 = .agg [z0.1, z1.1, z2.1] := by rw [hy1]
    simp only [List.map_cons, List.map_nil, Rows.uptoBulk, Rows.uptoBulkAll, q1]
    omega
end
end Go.Proofs.Ytbeefbhoccdicaa.OpenK
