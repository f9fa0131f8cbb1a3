/- A graph of its own: what is known of it, of a store into it. -/
import Derived.Test.YtbeefbhoccdicaaCloneG
namespace Go.Proofs.Ytbeefbhoccdicaa.ClG
open Go.RowKit Go.Proofs.YtbeefbhoccdicaaW.PrintWords Go.Proofs.YtbeefbhoccdicaaW.PrintLast Go.Proofs.YtbeefbhoccdicaaW.PrintMore Go.Proofs.Ytbeefbhoccdicaa.QGraphReads Go.Proofs.Ytbeefbhoccdicaa.CloneG
set_option linter.unusedVariables false
set_option linter.unusedSimpArgs false

/-- The cells of a vertex whose edges' slice is x. -/
def vc (v : S53) (x : Value) : List Value := [.int .i64 v.f0, .int .i64 v.f1, x]
/-- v holds vertices of its own, from base on, none of whose edges lie in another's block. -/
def Cl (w : World) (base : Nat) (v : Value) (L : List S53) : Prop :=
  ∃ (rows : List (List Value)) (f : Nat → Nat), rows.length = L.length ∧ Kd.R (Kd.raw 3) 53 w base (fun _ => True) v rows ∧
    ∀ j, j < L.length → ∃ x, rows.getD j [] = vc (L.getD j z53) x ∧ Kd.R k67 67 w base (fun b => f b = j) x (L.getD j z53).f2
/-- The first i have edges of their own, the others those of the world w0. -/
def ClP (w0 w : World) (base i : Nat) (v : Value) (L : List S53) : Prop :=
  ∃ (rows : List (List Value)) (f : Nat → Nat), rows.length = L.length ∧ Kd.R (Kd.raw 3) 53 w base (fun _ => True) v rows ∧
    ∀ j, j < L.length → (j < i → ∃ x, rows.getD j [] = vc (L.getD j z53) x ∧ Kd.R k67 67 w base (fun b => f b = j) x (L.getD j z53).f2) ∧
      (i ≤ j → ∃ A2 c2, rows.getD j [] = vc (L.getD j z53) (.slice A2 (L.getD j z53).f2.length c2) ∧ (L.getD j z53).f2.length ≤ c2 ∧ Kd.C k67 w0 A2 (L.getD j z53).f2.length (L.getD j z53).f2)
theorem ClP.all {w0 w : World} {base : Nat} {v : Value} {L : List S53} (h : ClP w0 w base L.length v L) : Cl w base v L := by
  obtain ⟨rows, f, h1, h2, h3⟩ := h
  exact ⟨rows, f, h1, h2, fun j hj => (h3 j hj).1 hj⟩
theorem E67 : ∀ q, q ∈ 67 :: k67.E → q ≠ 53 := by
  show ∀ q, q ∈ [67] → q ≠ 53
  decide
theorem Eraw : ∀ q, q ∈ 53 :: (Kd.raw 3).E → q ≠ 67 := by
  show ∀ q, q ∈ [53] → q ≠ 67
  decide
theorem R67_step {w w1 : World} {base : Nat} {ok : Nat → Prop} {x : Value} {es : List S67} (h : Kd.R k67 67 w base ok x es) (hb : Below w.heap.size w w1) : Kd.R k67 67 w1 base ok x es := Kd.R_below h hb
theorem ClP.below {w0 w w1 : World} {base i : Nat} {v : Value} {L : List S53} (h : ClP w0 w base i v L) (hb : Below w.heap.size w w1) : ClP w0 w1 base i v L := by
  obtain ⟨rows, f, h1, h2, h3⟩ := h
  refine ⟨rows, f, h1, Kd.R_below h2 hb, fun j hj => ⟨fun hi => ?_, (h3 j hj).2⟩⟩
  obtain ⟨x, hx, hr⟩ := (h3 j hj).1 hi
  exact ⟨x, hx, Kd.R_below hr hb⟩
theorem Cl.below {w w1 : World} {base : Nat} {v : Value} {L : List S53} (h : Cl w base v L) (hb : Below w.heap.size w w1) : Cl w1 base v L := by
  obtain ⟨rows, f, h1, h2, h3⟩ := h
  refine ⟨rows, f, h1, Kd.R_below h2 hb, fun j hj => ?_⟩
  obtain ⟨x, hx, hr⟩ := h3 j hj
  exact ⟨x, hx, Kd.R_below hr hb⟩
/-- A box of another kind is written. -/
theorem ClP.set {w0 w : World} {base i : Nat} {v : Value} {L : List S53} (h : ClP w0 w base i v L) {g t : Nat} {cells : Array Value} (hb : w.heap[g]? = some (.cells cells t (0, 0))) (h53 : 53 ≠ t) (h67 : 67 ≠ t) (j : Nat) (u : Value) : ClP w0 (w.setCell ⟨g, j, none⟩ u) base i v L := by
  obtain ⟨rows, f, h1, h2, h3⟩ := h
  refine ⟨rows, f, h1, Kd.R_set h2 hb (by intro q hq; rcases List.mem_cons.1 hq with rfl | h; exact h53; cases h) j u, fun k hk => ⟨fun hi => ?_, (h3 k hk).2⟩⟩
  obtain ⟨x, hx, hr⟩ := (h3 k hk).1 hi
  exact ⟨x, hx, Kd.R_set hr hb (by intro q hq; rcases List.mem_cons.1 hq with rfl | h; exact h67; cases h) j u⟩
theorem Cl.set {w : World} {base : Nat} {v : Value} {L : List S53} (h : Cl w base v L) {g t : Nat} {cells : Array Value} (hb : w.heap[g]? = some (.cells cells t (0, 0))) (h53 : 53 ≠ t) (h67 : 67 ≠ t) (j : Nat) (u : Value) : Cl (w.setCell ⟨g, j, none⟩ u) base v L := by
  obtain ⟨rows, f, h1, h2, h3⟩ := h
  refine ⟨rows, f, h1, Kd.R_set h2 hb (by intro q hq; rcases List.mem_cons.1 hq with rfl | h; exact h53; cases h) j u, fun k hk => ?_⟩
  obtain ⟨x, hx, hr⟩ := h3 k hk
  exact ⟨x, hx, Kd.R_set hr hb (by intro q hq; rcases List.mem_cons.1 hq with rfl | h; exact h67; cases h) j u⟩
theorem ClP.form {w0 w : World} {base i : Nat} {v : Value} {L : List S53} (h : ClP w0 w base i v L) (hp : 0 < L.length) : ∃ g cap, v = .slice (some ⟨g, 0, none⟩) L.length cap ∧ base ≤ g ∧ g < w.heap.size ∧ ∃ cells, w.heap[g]? = some (.cells cells 53 (0, 0)) := by
  obtain ⟨rows, f, h1, h2, h3⟩ := h
  rw [← h1] at hp ⊢
  exact Kd.R_form h2 hp
theorem Cl.form {w : World} {base : Nat} {v : Value} {L : List S53} (h : Cl w base v L) (hp : 0 < L.length) : ∃ g cap, v = .slice (some ⟨g, 0, none⟩) L.length cap ∧ base ≤ g ∧ g < w.heap.size ∧ ∃ cells, w.heap[g]? = some (.cells cells 53 (0, 0)) := by
  obtain ⟨rows, f, h1, h2, h3⟩ := h
  rw [← h1] at hp ⊢
  exact Kd.R_form h2 hp
theorem ClP.slice {w0 w : World} {base i : Nat} {v : Value} {L : List S53} (h : ClP w0 w base i v L) : ∃ A c, v = .slice A L.length c := by
  obtain ⟨rows, f, h1, h2, h3⟩ := h
  obtain ⟨A, c, hv⟩ := Kd.R_slice h2
  exact ⟨A, c, by rw [hv, h1]⟩
/-- The cells of the vertex at i, and its edges' slice. -/
theorem ClP.at_ {w0 w : World} {base i : Nat} {L : List S53} {g cap : Nat} (h : ClP w0 w base i (.slice (some ⟨g, 0, none⟩) L.length cap) L) (hi : i < L.length) :
    ∃ A2 c2, w.cell? ⟨g, i * 3, none⟩ = some (.int .i64 (L.getD i z53).f0) ∧ w.cell? ⟨g, i * 3 + 1, none⟩ = some (.int .i64 (L.getD i z53).f1) ∧ w.cell? ⟨g, i * 3 + 2, none⟩ = some (.slice A2 (L.getD i z53).f2.length c2) ∧
      w.frozen? ⟨g, i * 3 + 2, none⟩ = false ∧ (L.getD i z53).f2.length ≤ c2 ∧ Kd.C k67 w0 A2 (L.getD i z53).f2.length (L.getD i z53).f2 := by
  obtain ⟨rows, f, h1, h2, h3⟩ := h
  obtain ⟨A2, c2, hx, hl, hC⟩ := (h3 i hi).2 (Nat.le_refl _)
  obtain ⟨c, hc, ⟨hM, _⟩, hcc, hf⟩ := Kd.R_elem h2 [] (i : Int) (by omega) (by omega)
  rw [Int.toNat_natCast] at hM hcc hf
  rw [hx] at hM
  subst hM
  exact ⟨A2, c2, hcc 0 _ rfl, hcc 1 _ rfl, hcc 2 _ rfl, hf 2, hl, hC⟩
theorem getD_set_eq {α : Type} (l : List α) (i : Nat) (a z : α) (h : i < l.length) : (l.set i a).getD i z = a := by
  rw [List.getD_eq_getElem?_getD, List.getElem?_set_self h]; rfl
theorem getD_set_ne {α : Type} (l : List α) (i j : Nat) (a z : α) (h : i ≠ j) : (l.set i a).getD j z = l.getD j z := by
  rw [List.getD_eq_getElem?_getD, List.getElem?_set_ne h, ← List.getD_eq_getElem?_getD]
/-- The edges of the vertex at i are copied, and hung in. -/
theorem ClP.step {w0 w w5 : World} {base i : Nat} {L : List S53} {g cap : Nat} {x : Value} (h : ClP w0 w base i (.slice (some ⟨g, 0, none⟩) L.length cap) L) (hi : i < L.length) (hb : Below w.heap.size w w5) (hbase : base ≤ w.heap.size)
    (hx : Kd.R k67 67 w5 w.heap.size (fun _ => True) x (L.getD i z53).f2) : ClP w0 (w5.setCell ⟨g, i * 3 + 2, none⟩ x) base (i + 1) (.slice (some ⟨g, 0, none⟩) L.length cap) L := by
  obtain ⟨rows, f, h1, h2, h3⟩ := h
  obtain ⟨A2, c2, hx0, hl, hC⟩ := (h3 i hi).2 (Nat.le_refl _)
  have h2' := Kd.R_below h2 hb
  obtain ⟨c, hc, ⟨hM, _⟩, hcc, hf⟩ := Kd.R_elem h2' [] (i : Int) (by omega) (by omega)
  rw [Int.toNat_natCast] at hM hcc hf
  rw [hx0] at hM
  subst hM
  obtain ⟨hvx, hox⟩ := Kd.R_val hx
  have hst := (Kd.R_seg h2' (i : Int) (by omega) (by omega) (j := 2) (seg := [x]) hc (by rw [Int.toNat_natCast]; exact hcc) (Nat.le_refl _) (okp := fun _ => False) (x' := vc (L.getD i z53) x)
    ⟨rfl, rfl, by
      intro u hu
      rcases List.mem_cons.1 hu with rfl | hu
      · rfl
      rcases List.mem_cons.1 hu with rfl | hu
      · rfl
      rcases List.mem_cons.1 hu with rfl | hu
      · exact hox
      cases hu⟩ (fun _ hk => hk.elim)).1
  rw [Int.toNat_natCast] at hst
  obtain ⟨cells, hgt⟩ := Kd.R_typed h2' g rfl
  refine ⟨rows.set i (vc (L.getD i z53) x), fun b => if b < w.heap.size then f b else i, by rw [List.length_set]; exact h1, hst, fun j hj => ⟨fun hji => ?_, fun hij => ?_⟩⟩
  · rcases Nat.lt_or_ge j i with hlt | hge
    · obtain ⟨y, hy, hr⟩ := (h3 j hj).1 hlt
      refine ⟨y, by rw [getD_set_ne _ _ _ _ _ (by omega)]; exact hy, ?_⟩
      refine Kd.R_set (Kd.R_below (Kd.R_mono (Kd.R_bound hr) (fun k hk => ?_)) hb) hgt E67 _ _
      show (if k < w.heap.size then f k else i) = j
      rw [if_pos hk.2.2.1]
      exact hk.1
    · have : j = i := by omega
      subst this
      refine ⟨x, getD_set_eq _ _ _ _ (by omega), ?_⟩
      refine Kd.R_set (Kd.R_lower (Kd.R_mono (Kd.R_bound hx) (fun k hk => ?_)) hbase) hgt E67 _ _
      show (if k < w.heap.size then f k else j) = j
      rw [if_neg (by have := hk.2.1; omega)]
  · obtain ⟨A3, c3, hy, hr⟩ := (h3 j hj).2 (by omega)
    exact ⟨A3, c3, by rw [getD_set_ne _ _ _ _ _ (by omega)]; exact hy, hr⟩
/-- It is a graph that can be read. -/
theorem Cl.reads {w : World} {base : Nat} {v : Value} {L : List S53} (h : Cl w base v L) : ∃ A c, v = .slice A L.length c ∧ L.length ≤ c ∧ Kd.C k53 w A L.length L := by
  obtain ⟨rows, f, h1, h2, h3⟩ := h
  obtain ⟨A, c, hv, hl, hC⟩ := Kd.R_reads h2
  rw [h1] at hv hl hC
  refine ⟨A, c, hv, hl, rfl, hC.2.1, fun hp => ?_⟩
  obtain ⟨ad, hA, hc⟩ := hC.2.2 hp
  refine ⟨ad, hA, fun j p hj => ?_⟩
  have hjl := (List.getElem?_eq_some_iff.1 hj).1
  have hp' : L.getD j z53 = p := by rw [List.getD_eq_getElem?_getD, hj]; rfl
  obtain ⟨x, hx, hr⟩ := h3 j hjl
  rw [hp'] at hx hr
  obtain ⟨cs, hcs, ⟨hK, _⟩, hcell⟩ := hc j (rows.getD j []) (by rw [List.getD_eq_getElem?_getD, List.getElem?_eq_getElem (show j < rows.length by omega)]; rfl)
  rw [hx] at hK
  subst hK
  refine ⟨vc p x, rfl, ?_, hcell⟩
  obtain ⟨A2, c2, hv2, hl2, hC2⟩ := Kd.R_reads hr
  subst hv2
  exact k53_mk w p hl2 hC2
/-- The cells of the vertex at i. -/
theorem Cl.at_ {w : World} {base i : Nat} {L : List S53} {g cap : Nat} (h : Cl w base (.slice (some ⟨g, 0, none⟩) L.length cap) L) (hi : i < L.length) :
    ∃ A2 c2, w.cell? ⟨g, i * 3, none⟩ = some (.int .i64 (L.getD i z53).f0) ∧ w.cell? ⟨g, i * 3 + 1, none⟩ = some (.int .i64 (L.getD i z53).f1) ∧ w.cell? ⟨g, i * 3 + 2, none⟩ = some (.slice A2 (L.getD i z53).f2.length c2) ∧
      w.frozen? ⟨g, i * 3 + 1, none⟩ = false := by
  obtain ⟨rows, f, h1, h2, h3⟩ := h
  obtain ⟨x, hx, hr⟩ := h3 i hi
  obtain ⟨c, hc, ⟨hM, _⟩, hcc, hf⟩ := Kd.R_elem h2 [] (i : Int) (by omega) (by omega)
  rw [Int.toNat_natCast] at hM hcc hf
  rw [hx] at hM
  subst hM
  obtain ⟨A2, c2, rfl⟩ := Kd.R_slice hr
  exact ⟨A2, c2, hcc 0 _ rfl, hcc 1 _ rfl, hcc 2 _ rfl, hf 1⟩
theorem one3 {a b : Int} {x : Value} (hx : x.oneCell' = true) : ∀ u ∈ ([.int .i64 a, .int .i64 b, x] : List Value), u.oneCell' = true := by
  intro u hu
  rcases List.mem_cons.1 hu with rfl | hu
  · rfl
  rcases List.mem_cons.1 hu with rfl | hu
  · rfl
  rcases List.mem_cons.1 hu with rfl | hu
  · exact hx
  cases hu
theorem Cl.short {w : World} {base i : Nat} {v : Value} {L : List S53} (h : Cl w base v L) (hi : i < L.length) : (L.getD i z53).f2.length ≤ 9223372036854775807 := by
  obtain ⟨rows, f, h1, h2, h3⟩ := h
  obtain ⟨x, hx, hr⟩ := h3 i hi
  obtain ⟨A, c, hv, hl, hC⟩ := Kd.R_reads hr
  exact hC.2.1
/-- A value is written. -/
theorem Cl.value {w : World} {base i : Nat} {L : List S53} {g cap : Nat} (h : Cl w base (.slice (some ⟨g, 0, none⟩) L.length cap) L) (hi : i < L.length) (y : Int) :
    Cl (w.setCell ⟨g, i * 3 + 1, none⟩ (.int .i64 y)) base (.slice (some ⟨g, 0, none⟩) L.length cap) (L.set i ⟨(L.getD i z53).f0, y, (L.getD i z53).f2⟩) := by
  obtain ⟨rows, f, h1, h2, h3⟩ := h
  obtain ⟨x, hx0, hr⟩ := h3 i hi
  obtain ⟨c, hc, ⟨hM, _⟩, hcc, hf⟩ := Kd.R_elem h2 [] (i : Int) (by omega) (by omega)
  rw [Int.toNat_natCast] at hM hcc hf
  rw [hx0] at hM
  subst hM
  obtain ⟨hvx, hox⟩ := Kd.R_val hr
  have hst := (Kd.R_seg h2 (i : Int) (by omega) (by omega) (j := 1) (seg := [.int .i64 y]) hc (by rw [Int.toNat_natCast]; exact hcc) (by show 1 + 1 ≤ 3; omega) (okp := fun _ => False) (x' := vc ⟨(L.getD i z53).f0, y, (L.getD i z53).f2⟩ x)
    ⟨rfl, rfl, one3 hox⟩ (fun _ hk => hk.elim)).1
  rw [Int.toNat_natCast] at hst
  obtain ⟨cells, hgt⟩ := Kd.R_typed h2 g rfl
  refine ⟨rows.set i (vc ⟨(L.getD i z53).f0, y, (L.getD i z53).f2⟩ x), f, by rw [List.length_set, List.length_set]; exact h1, hst, fun j hj => ?_⟩
  rw [List.length_set] at hj
  by_cases hij : i = j
  · subst hij
    exact ⟨x, by rw [getD_set_eq _ _ _ _ (by omega), getD_set_eq _ _ _ _ hi], by rw [getD_set_eq _ _ _ _ hi]; exact Kd.R_set hr hgt E67 _ _⟩
  · obtain ⟨x2, hx2, hr2⟩ := h3 j hj
    exact ⟨x2, by rw [getD_set_ne _ _ _ _ _ hij, getD_set_ne _ _ _ _ _ hij]; exact hx2, by rw [getD_set_ne _ _ _ _ _ hij]; exact Kd.R_set hr2 hgt E67 _ _⟩
/-- A weight is written. -/
theorem Cl.weight {w : World} {base i k : Nat} {L : List S53} {g cap : Nat} (h : Cl w base (.slice (some ⟨g, 0, none⟩) L.length cap) L) (hi : i < L.length) (hk : k < (L.getD i z53).f2.length) :
    ∃ ge ce, w.cell? ⟨g, i * 3 + 2, none⟩ = some (.slice (some ⟨ge, 0, none⟩) (L.getD i z53).f2.length ce) ∧ w.cell? ⟨ge, k * 2 + 1, none⟩ = some (.int .i64 ((L.getD i z53).f2.getD k z67).f1) ∧ w.frozen? ⟨ge, k * 2 + 1, none⟩ = false ∧ base ≤ ge ∧ ge < w.heap.size ∧ (∃ cells, w.heap[ge]? = some (.cells cells 67 (0, 0))) ∧
      ∀ y, Cl (w.setCell ⟨ge, k * 2 + 1, none⟩ (.int .i64 y)) base (.slice (some ⟨g, 0, none⟩) L.length cap) (L.set i ⟨(L.getD i z53).f0, (L.getD i z53).f1, (L.getD i z53).f2.set k ⟨((L.getD i z53).f2.getD k z67).f0, y⟩⟩) := by
  obtain ⟨rows, f, h1, h2, h3⟩ := h
  obtain ⟨x, hx0, hr⟩ := h3 i hi
  obtain ⟨c, hc, ⟨hM, _⟩, hcc, hf⟩ := Kd.R_elem h2 [] (i : Int) (by omega) (by omega)
  rw [Int.toNat_natCast] at hM hcc hf
  rw [hx0] at hM
  subst hM
  have hx2 := hcc 2 x rfl
  obtain ⟨ge, ce, rfl, hbe, hle, cells, hgt⟩ := Kd.R_form hr (by omega)
  obtain ⟨d, hd, hM2, hdd, hfd⟩ := Kd.R_elem hr z67 (k : Int) (by omega) (by omega)
  rw [Int.toNat_natCast] at hM2 hdd hfd
  obtain rfl := k67_open (k67.K_of_M hM2)
  have hdd1 : w.cell? ⟨ge, k * 2 + 1, none⟩ = some (.int .i64 ((L.getD i z53).f2.getD k z67).f1) := hdd 1 _ rfl
  have hfd1 : w.frozen? ⟨ge, k * 2 + 1, none⟩ = false := hfd 1
  refine ⟨ge, ce, hx2, hdd1, hfd1, hbe, hle, ⟨cells, hgt⟩, fun y => ?_⟩
  have hst := (Kd.R_seg hr (k : Int) (by omega) (by omega) (j := 1) (seg := [.int .i64 y]) hd (by rw [Int.toNat_natCast]; exact hdd) (by show 1 + 1 ≤ 2; omega) (okp := fun _ => False) (x' := (⟨((L.getD i z53).f2.getD k z67).f0, y⟩ : S67))
    (k67_mkM w base _ (⟨((L.getD i z53).f2.getD k z67).f0, y⟩ : S67)) (fun _ hk => hk.elim)).1
  rw [Int.toNat_natCast] at hst
  have hfi : f ge = i := hr.1 ge rfl
  refine ⟨rows, f, by rw [List.length_set]; exact h1, Kd.R_set h2 hgt Eraw _ _, fun j hj => ?_⟩
  rw [List.length_set] at hj
  by_cases hij : i = j
  · subst hij
    rw [getD_set_eq _ _ _ _ hi]
    refine ⟨.slice (some ⟨ge, 0, none⟩) (L.getD i z53).f2.length ce, hx0, ?_⟩
    exact hst
  · rw [getD_set_ne _ _ _ _ _ hij]
    obtain ⟨x2, hx2, hr2⟩ := h3 j hj
    exact ⟨x2, hx2, Kd.R_far (p := ⟨ge, k * 2 + 1, none⟩) hr2 (fun b hb he => hij (by rw [← hfi, ← hb]; exact congrArg f he.symm)) _⟩
end Go.Proofs.Ytbeefbhoccdicaa.ClG
