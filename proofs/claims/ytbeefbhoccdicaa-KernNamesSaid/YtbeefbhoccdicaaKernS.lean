/- A program that is none: what a step says then. -/
import Derived.Test.YtbeefbhoccdicaaAwakeK
namespace Go.Proofs.Ytbeefbhoccdicaa.KernS
open Go.RowKit Go.Proofs.YtbeefbhoccdicaaW.PrintWords Go.Proofs.YtbeefbhoccdicaaW.PrintLast Go.Proofs.YtbeefbhoccdicaaW.PrintMore Go.Proofs.Ytbeefbhoccdicaa.QGraphReads Go.Proofs.Ytbeefbhoccdicaa.KernM
set_option linter.unusedVariables false
set_option linter.unusedSimpArgs false

/-- What a step of no program says. -/
def noneC : Array Value := #[.int .i64 0, .bool false, .slice none 0 0, .slice none 0 0, .bool false, .bool false, .bool false, .bool false, .bool false, .int .i64 0, .int .i64 0, .int .i64 0, .int .i64 0, .int .i64 0, .int .i64 70]

set_option maxHeartbeats 4000000 in
set_option maxRecDepth 100000 in
theorem step_none (w : World) (s : ByteArray) (c0 c1 c2 c3 c4 c5 c6 c7 c8 c9 c10 c11 c12 c13 c14 c15 c16 c17 : Value) (h1 : s.toList ≠ ([98, 102, 115] : List UInt8)) (h2 : s.toList ≠ ([115, 115, 115, 112] : List UInt8)) (h3 : s.toList ≠ ([100, 101, 103, 114, 101, 101] : List UInt8)) (h4 : s.toList ≠ ([112, 97, 103, 101, 114, 97, 110, 107] : List UInt8)) (h5 : s.toList ≠ ([99, 99] : List UInt8)) :
    Calls Try.prog 48 #[.string s, .agg #[c0, c1, c2, c3, c4, c5, c6, c7, c8, c9, c10, c11, c12, c13, c14, c15, c16, c17]] w fun e w' => e = .returned (.agg noneC) ∧ Below w.heap.size w w' := by
  have g1 : (s.toList == ([98, 102, 115] : List UInt8)) = false := beq_eq_false_iff_ne.mpr h1
  have g2 : (s.toList == ([115, 115, 115, 112] : List UInt8)) = false := beq_eq_false_iff_ne.mpr h2
  have g3 : (s.toList == ([100, 101, 103, 114, 101, 101] : List UInt8)) = false := beq_eq_false_iff_ne.mpr h3
  have g4 : (s.toList == ([112, 97, 103, 101, 114, 97, 110, 107] : List UInt8)) = false := beq_eq_false_iff_ne.mpr h4
  have g5 : (s.toList == ([99, 99] : List UInt8)) = false := beq_eq_false_iff_ne.mpr h5
  clear h1 h2 h3 h4 h5
  have HY := Aside0.mk (blk_new (w.alloc (.cells #[c0, c1, c2, c3, c4, c5, c6, c7, c8, c9, c10, c11, c12, c13, c14, c15, c16, c17] 81)) (.cells #[.int .i64 0, .bool false, .slice none 0 0, .slice none 0 0, .bool false, .bool false, .bool false, .bool false, .bool false, .int .i64 0, .int .i64 0, .int .i64 0, .int .i64 0, .int .i64 0, .int .i64 0] 93))
  have HB := Aside0.mk (below_alloc (below_alloc (Below.refl w.heap.size w) (.cells #[c0, c1, c2, c3, c4, c5, c6, c7, c8, c9, c10, c11, c12, c13, c14, c15, c16, c17] 81)) (.cells #[.int .i64 0, .bool false, .slice none 0 0, .slice none 0 0, .bool false, .bool false, .bool false, .bool false, .bool false, .int .i64 0, .int .i64 0, .int .i64 0, .int .i64 0, .int .i64 0, .int .i64 0] 93))
  rw [World.size_alloc] at HY
  generalize hw2 : ((w.alloc (.cells #[c0, c1, c2, c3, c4, c5, c6, c7, c8, c9, c10, c11, c12, c13, c14, c15, c16, c17] 81)).alloc (.cells #[.int .i64 0, .bool false, .slice none 0 0, .slice none 0 0, .bool false, .bool false, .bool false, .bool false, .bool false, .int .i64 0, .int .i64 0, .int .i64 0, .int .i64 0, .int .i64 0, .int .i64 0] 93)) = w2 at HY HB
  go_enter Try.func48, Try.ntmps48
  go_wp2_with (first | (with_reducible refine gate_store (t := 93) (p := 4) rfl ?_); refine wpList_store_row rfl 93 (.tmp 4) (.tmp 26) rfl (w.heap.size + 1) _ rfl rfl 93 _ HY.out (by kernel_rfl) rfl (by simp [Value.oneCell']) ?_)
  refine bodyPost_ret (results_cell_row rfl _ _ (w.heap.size + 1) 93 _ (0, 0) _ rfl (setRow_heap _ _ _ _ _ _ HY.out) Try.underlying93 rfl (by kernel_rfl)) rfl ?_
  exact ⟨rfl, below_setRow HB.out (Nat.le_succ _) _⟩
end Go.Proofs.Ytbeefbhoccdicaa.KernS
