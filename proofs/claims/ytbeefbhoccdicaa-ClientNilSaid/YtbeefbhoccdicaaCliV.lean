/- What a client has heard: walked. -/
import Derived.Test.YtbeefbhoccdicaaCliH
import Derived.LoopN
namespace Go.Proofs.Ytbeefbhoccdicaa.CliV
open Go.RowKit Go.Proofs.YtbeefbhoccdicaaW.PrintWords Go.Proofs.YtbeefbhoccdicaaW.PrintLast Go.Proofs.YtbeefbhoccdicaaW.PrintMore Go.Proofs.Ytbeefbhoccdicaa.QGraphReads Go.Proofs.Ytbeefbhoccdicaa.CloneC Go.Proofs.Ytbeefbhoccdicaa.CliA Go.Proofs.Ytbeefbhoccdicaa.CliK Go.Proofs.Ytbeefbhoccdicaa.CliT Go.Proofs.Ytbeefbhoccdicaa.CliH
set_option linter.unusedVariables false
set_option linter.unusedSimpArgs false

theorem heard_nil (w : World) : Calls Try.prog 66 #[.pointer none] w fun e w' => e = .returned (.slice none 0 0) ∧ w = w' := by
  go_enter Try.func66, Try.ntmps66
  go_wp2_with fail
  go_ret
  exact ⟨rfl, rfl⟩
theorem tick_nil (w : World) : Calls Try.prog 69 #[.pointer none] w fun e w' => e = .returned (.slice none 0 0) ∧ ∃ m, w' = w.drewN m := by
  go_enter Try.func69, Try.ntmps69
  go_wp2_with fail
  refine (ended_nil w).mono ?_
  rintro e w' ⟨rfl, m, rfl⟩
  go_wp2_with fail
  go_ret
  exact ⟨rfl, _, rfl⟩
theorem R_one {w : World} {base : Nat} {v : Value} {row : List Value} (h : (Kd.raw 11).R 130 w base (fun _ => True) v [row]) :
    ∃ q c cur, v = .slice (some ⟨q, 0, none⟩) 1 c ∧ base ≤ q ∧ w.heap[q]? = some (.cells cur 130 (0, 0)) ∧ ∀ (j : Nat) u, row[j]? = some u → cur[j]? = some u := by
  obtain ⟨_, inner, ho, hr⟩ := h
  have h0 := hr.2 0 row rfl
  rcases ho.2 with ⟨_, hn⟩ | ⟨q, cap, cur, rfl, hq, hh, h1, h2, h3, h4⟩
  · cases hn
  · refine ⟨q, cap, cur, rfl, hq, hh, fun j u hj => ?_⟩
    have e1 : (inner.drop (0 * 11)).take 11 = row := h0.1
    have hl : row.length = 11 := by have := h0.2.1; rw [show (List.take (Kd.raw 11).sz (List.drop (0 * (Kd.raw 11).sz) inner)) = row from e1] at this; exact this
    have hj' : j < 11 := by have := List.getElem?_eq_some_iff.1 hj; obtain ⟨hlt, _⟩ := this; omega
    have e2 : cur.toList.take 11 = inner := by simpa [show (Kd.raw 11).sz = 11 from rfl] using h4
    rw [Nat.zero_mul, List.drop_zero, ← e2, List.take_take, Nat.min_self] at e1
    rw [← e1, List.getElem?_take_of_lt hj'] at hj
    simpa using hj
theorem c_none {α : Type} (d : Kd α) (w : World) (A : Option Addr) : d.C w A ([] : List α).length [] := ⟨rfl, by simp, fun h => absurd h (Nat.lt_irrefl 0)⟩
set_option maxHeartbeats 8000000 in
set_option maxRecDepth 100000 in
theorem heard_none (w : World) (g : Nat) (n ma ld : Int) (l : Value) (at_ sq since silent : Int) (H : Cli w g n ma ld l at_ sq since silent (.slice none 0 0)) :
    Calls Try.prog 66 #[.pointer (some ⟨g, 0, none⟩)] w fun e w' => (∃ A c, e = .returned (.slice A 0 c)) ∧ Below w.heap.size w w' := by
  have h8 := H.c8
  go_enter Try.func66, Try.ntmps66
  go_wp2_with fail
  refine (heard_clone w [] none 0 (Kd.C_nil _ _) (by decide)).mono ?_
  rintro e w1 ⟨v, rfl, hr, hb⟩
  obtain ⟨A, c, rfl⟩ := Kd.R_slice hr
  simp only [List.length_nil]
  have HB := Aside0.mk hb
  clear hr hb h8 H
  go_wp2_with fail
  refine wp_loop_rounds 1 ?_
  rw [rounds_succ]
  go_wp2_with fail
  go_ret
  exact ⟨⟨A, c, rfl⟩, HB.out⟩
set_option maxHeartbeats 8000000 in
set_option maxRecDepth 100000 in
theorem heard_one (w : World) (g : Nat) (n ma ld : Int) (l : Value) (at_ sq since silent : Int) (Av : Option Addr) (cv : Nat) (row : List Value) (A0 : Option Addr) (c0 : Nat)
    (H : Cli w g n ma ld l at_ sq since silent (.slice Av 1 cv)) (hr : Kd.C (Kd.raw 11) w Av 1 [row]) (h10 : row[10]? = some (.slice A0 0 c0)) :
    Calls Try.prog 66 #[.pointer (some ⟨g, 0, none⟩)] w fun e w' => (∃ q c1 cur, e = .returned (.slice (some ⟨q, 0, none⟩) 1 c1) ∧ w'.heap[q]? = some (.cells cur 130 (0, 0)) ∧ ∀ (j : Nat) u, j < 10 → row[j]? = some u → cur[j]? = some u) ∧ Below w.heap.size w w' := by
  have h8 := H.c8
  have HR := Aside0.mk hr
  clear hr
  go_enter Try.func66, Try.ntmps66
  go_wp2_with fail
  refine (heard_clone w [row] Av cv HR.out (by simp)).mono ?_
  rintro e w1 ⟨v, rfl, hr, hb⟩
  obtain ⟨q, c1, cur, rfl, hq, hh, hc⟩ := R_one hr
  have HB := Aside0.mk hb
  have HH := Aside0.mk hh
  have HC := Aside0.mk hc
  have x10 : w1.cell? ⟨q, 10, none⟩ = some (.slice A0 0 c0) := (blk_cell hh 10).trans (hc 10 _ h10)
  clear hr hb h8 H hh hc h10
  go_wp2_with fail
  refine wp_loop_rounds 2 ?_
  rw [rounds_succ]
  go_wp2_with fail
  refine (values_clone w1 [] A0 c0 (c_none _ _ _) (by decide)).mono ?_
  rintro e w2 ⟨v, rfl, hr, hb⟩
  obtain ⟨A2, c2, rfl⟩ := Kd.R_slice hr
  simp only [List.length_nil]
  have HB2 := Aside0.mk (below_then HB.out HB.out.size hb)
  have HH2 := Aside0.mk (blk_below HH.out hb)
  have x10 : w2.cell? ⟨q, 10, none⟩ = some (.slice A0 0 c0) := (hb.cell (World.block_lt_of_cell? _ _ x10)).trans x10
  have f10 := blk_frozen HH2.out 10
  clear hr hb HH HB
  go_wp2_with fail
  rw [rounds_succ]
  go_wp2_with fail
  go_ret
  refine ⟨⟨q, c1, _, rfl, blk_set HH2.out 10 _, fun j u hj hu => ?_⟩, below_set HB2.out hq⟩
  rw [Array.getElem?_setIfInBounds_ne (by omega)]
  exact HC.out j u hu
end Go.Proofs.Ytbeefbhoccdicaa.CliV
