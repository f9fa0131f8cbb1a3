/- A graph, opened: its vertices, their edges, how many there may be. -/
import Derived.SizedLaws
import Derived.Test.YtbeefbhoccdicaaOpenG
namespace Go.Proofs.Ytbeefbhoccdicaa.OpenG2
open Go.ChangeShapes Go.WideShapes Go.Deep Go.Joins
open Go.RowKit Go.Proofs.YtbeefbhoccdicaaW.PrintWords Go.Proofs.YtbeefbhoccdicaaW.PrintLast Go.Proofs.YtbeefbhoccdicaaW.PrintMore Go.Proofs.Ytbeefbhoccdicaa.QGraphReads Go.Proofs.Ytbeefbhoccdicaa.WireNum Go.Proofs.Ytbeefbhoccdicaa.PutG Go.Proofs.Ytbeefbhoccdicaa.OpenG
set_option linter.unusedVariables false
section
variable {H : Type} {enc : TypeId × Value → H} {P : Program} {w : World} {base : Nat} {spare : Nat → Bool} {held : Bool}

theorem weights_all {e : TypeId} {n : Nat} : ∀ {ds : List (DataW H)} {d : DataW H}, d ∈ ds → n ∈ d.weights P e → n ∈ DataW.weightsAll P e ds
  | [], _, h, _ => by cases h
  | x :: t, d, h, hn => by
    simp only [DataW.weightsAll, List.mem_append]
    rcases List.mem_cons.1 h with rfl | h
    · exact .inl hn
    · exact .inr (weights_all h hn)

set_option maxRecDepth 100000 in
theorem edges_size {fuel : Nat} {A : Option Addr} {len cap N : Nat} {x : DataW H × List MemPlace} (h : DataW.trod enc Try.prog w base spare held fuel 51 [.slice A len cap] = some x) (hn : ∀ n ∈ x.1.weights Try.prog 51, n ≤ N) : len * 16 ≤ N := by
  rcases open_slice Try.underlying51 h with ⟨hcs, _⟩ | ⟨a, l, c, m, n, D, Pl, hcs, _, hl, hm, hmm, hx, _⟩
  · simp at hcs
    obtain ⟨rfl, rfl, rfl⟩ := hcs
    omega
  · simp at hcs
    obtain ⟨rfl, rfl, rfl⟩ := hcs
    have hb : Try.prog.bytesOf 67 = 16 := by kernel_rfl
    have h1 := hn (((List.range len).map D).length + ((List.range (m - len)).map fun j => D (len + j)).length |> (· * Try.prog.bytesOf 67)) (by rw [hx]; simp [DataW.weights, Try.underlying51])
    simp only [List.length_map, List.length_range, hb] at h1
    have : len * 16 ≤ (len + (m - len)) * 16 := Nat.mul_le_mul_right _ (by omega)
    omega

set_option maxRecDepth 100000 in
theorem open_verts {fuel : Nat} {A : Option Addr} {len cap N : Nat} {x : DataW H × List MemPlace} (h : DataW.trod enc Try.prog w base spare held fuel 22 [.slice A len cap] = some x) (hn : ∀ n ∈ x.1.weights Try.prog 22, n ≤ N) :
    ∃ l : List S53, l.length = len ∧ len ≤ cap ∧ Kd.C k53 w A len l ∧ (∀ v ∈ l, VertIn v ∧ v.f2.length * 16 ≤ N) ∧ len * 40 ≤ N := by
  rcases open_slice Try.underlying22 h with ⟨hcs, _⟩ | ⟨a, l0, c, m, n, D, Pl, hcs, _, hl, hm, hmm, hx, hi⟩
  · simp at hcs
    obtain ⟨rfl, rfl, rfl⟩ := hcs
    exact ⟨[], rfl, Nat.le_refl _, Kd.C_nil _ _, fun e he => (by cases he), by omega⟩
  · simp at hcs
    obtain ⟨rfl, rfl, rfl⟩ := hcs
    have hb : Try.prog.bytesOf 53 = 40 := by kernel_rfl
    have hC : Try.prog.cellsOf 53 = 3 := by kernel_rfl
    have h40 : len * 40 ≤ N := by
      have h1 := hn (((List.range len).map D).length + ((List.range (m - len)).map fun j => D (len + j)).length |> (· * Try.prog.bytesOf 53)) (by rw [hx]; simp [DataW.weights, Try.underlying22])
      simp only [List.length_map, List.length_range, hb] at h1
      have : len * 40 ≤ (len + (m - len)) * 40 := Nat.mul_le_mul_right _ (by omega)
      omega
    have hD : ∀ i, i < len → ∀ n ∈ (D i).weights Try.prog 53, n ≤ N := by
      intro i hil n hnn
      refine hn n ?_
      rw [hx]
      have hmem : n ∈ DataW.weightsAll Try.prog 53 ((List.range len).map D) := weights_all (List.mem_map.2 ⟨i, List.mem_range.2 hil, rfl⟩) hnn
      simp only [DataW.weights, Try.underlying22, List.mem_cons, List.mem_append]
      exact .inr (.inl hmem)
    obtain ⟨l, hel, hq⟩ := choose_list len (fun i (v : S53) => VertIn v ∧ v.f2.length * 16 ≤ N ∧ ∃ A2 c2, v.f2.length ≤ c2 ∧ Kd.C k67 w A2 v.f2.length v.f2 ∧ w.cell? (a.add (i * 3)) = some (.int .i64 v.f0) ∧ w.cell? (a.add (i * 3 + 1)) = some (.int .i64 v.f1) ∧ w.cell? (a.add (i * 3 + 2)) = some (.slice A2 v.f2.length c2)) (by
      intro i hil
      have him : i < m := by rw [hmm]; split <;> omega
      obtain ⟨cs', hc, ht'⟩ := hi i him
      rw [hC] at hc
      obtain ⟨y0, y1, y2, n', hy, hlen, h0, h1, h2⟩ := trod_struct3 Try.underlying53 ht'
      rw [hC] at hlen
      obtain ⟨_, hcl, hat⟩ := World.cells?_some hc
      match cs', hlen, hc, ht', h0, h1, h2, hcl, hat with
      | [q0, q1, q2], _, _, _, h0, h1, h2, _, hat =>
        have e2 : Try.prog.cellsOf 2 = 1 := by kernel_rfl
        have e51 : Try.prog.cellsOf 51 = 1 := by kernel_rfl
        simp [e2, e51] at h0 h1 h2
        obtain ⟨n0, he0, _, hw0⟩ := DataW.trod_int Try.underlying2 h0
        obtain ⟨n1, he1, _, hw1⟩ := DataW.trod_int Try.underlying2 h1
        simp at he0 he1
        subst he0 he1
        obtain ⟨A2, l2, c2, he⟩ := slice_form Try.underlying51 h2
        simp at he
        subst he
        obtain ⟨es, rfl, hl2, hC2, hE⟩ := open_edges h2
        have hsz := edges_size (N := N) h2 (fun n hnn => hD i hil n (by
          have hd : D i = .agg [y0.1, y1.1, y2.1] := by
            simp only [Prod.mk.injEq] at hy
            exact hy.1
          rw [hd]
          simp only [DataW.weights, Try.underlying53]
          simp only [List.map_cons, List.map_nil, DataW.weightsEach, List.mem_append]
          exact .inr (.inr (.inl hnn))))
        have c0 := hat 0 (by omega)
        have c1 := hat 1 (by omega)
        have c22 := hat 2 (by omega)
        rw [Go.Deep.add_add] at c0 c1 c22
        refine ⟨⟨n0, n1, es⟩, ⟨in_wf hw0, in_wf hw1, hE⟩, hsz, A2, c2, hl2, hC2, ?_, ?_, ?_⟩
        · simpa using c0
        · simpa using c1
        · simpa using c22)
    refine ⟨l, hel, hl, ⟨hel, by unfold maxLen at hm; omega, fun _ => ⟨a, rfl, ?_⟩⟩, ?_, h40⟩
    · intro j p hj
      obtain ⟨_, _, A2, c2, hl2, hC2, g0, g1, g2⟩ := hq j p hj
      refine ⟨_, rfl, k53_mk w p hl2 hC2, ?_⟩
      intro i u hiu
      have hlt := (List.getElem?_eq_some_iff.1 hiu).1
      have h2 : i = 0 ∨ i = 1 ∨ i = 2 := by simp at hlt; omega
      rcases h2 with rfl | rfl | rfl
      · have : Value.int .i64 p.f0 = u := by simpa using hiu
        subst this
        exact g0
      · have : Value.int .i64 p.f1 = u := by simpa using hiu
        subst this
        exact g1
      · have : Value.slice A2 p.f2.length c2 = u := by simpa using hiu
        subst this
        exact g2
    · intro v hv
      obtain ⟨i, hi2⟩ := List.getElem?_of_mem hv
      exact ⟨(hq i v hi2).1, (hq i v hi2).2.1⟩

theorem array1 {α : Type} {cs : Array α} (h : cs.size = 1) : ∃ c0, cs = #[c0] := by
  obtain ⟨l⟩ := cs
  match l, h with
  | [c0], _ => exact ⟨c0, rfl⟩

set_option maxRecDepth 100000 in
/-- A graph argument: a list of vertices that is read; no slice takes more than N bytes. -/
theorem open_graph {v : Value} {d : DataW H} {p : List MemPlace} {r : Reach} {b0 N : Nat} (hv : Value.okWide Try.prog w r b0 24 v) (h : DataW.Trod enc Try.prog w base spare held 24 v d p) (hn : ∀ n ∈ d.weights Try.prog 24, n ≤ N) :
    ∃ (l : List S53) (A : Option Addr) (c : Nat), v = .agg #[.slice A l.length c] ∧ l.length ≤ c ∧ Kd.C k53 w A l.length l ∧ (∀ u ∈ l, VertIn u ∧ u.f2.length * 16 ≤ N) ∧ l.length * 40 ≤ N := by
  obtain ⟨cs, rfl, hsz⟩ := okWide_struct Try.underlying24 hv
  have hC : Try.prog.cellsOf 24 = 1 := by kernel_rfl
  obtain ⟨c0, rfl⟩ := array1 (hsz.trans hC)
  obtain ⟨fuel, hf⟩ := h
  obtain ⟨xs, n, _, hx, hcl, hlen, hg⟩ := DataW.trod_struct Try.underlying24 hf
  match xs, hlen with
  | [y0], _ =>
    have h0 := hg 0 _ rfl
    have e22 : Try.prog.cellsOf 22 = 1 := by kernel_rfl
    simp [Value.cells, e22] at h0
    simp only [Prod.mk.injEq] at hx
    obtain ⟨A, l0, c, he⟩ := slice_form Try.underlying22 h0
    simp at he
    subst he
    obtain ⟨l, rfl, hl, hCC, hv2, h40⟩ := open_verts (N := N) h0 (fun m hm => hn m (by
      rw [hx.1]
      simp only [DataW.weights, Try.underlying24]
      simp only [List.map_cons, List.map_nil, DataW.weightsEach, List.mem_append]
      exact .inl hm))
    exact ⟨l, A, c, rfl, hl, hCC, hv2, h40⟩
end
end Go.Proofs.Ytbeefbhoccdicaa.OpenG2
