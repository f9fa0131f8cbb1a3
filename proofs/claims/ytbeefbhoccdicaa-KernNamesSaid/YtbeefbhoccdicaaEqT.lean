/- Aggregates held against themselves. -/
import Derived.Test.YtbeefbhoccdicaaKernS
import Derived.Test.YtbeefbhoccdicaaWEqStruct
import Derived.ChangeKeysEq
namespace Go.Proofs.Ytbeefbhoccdicaa.EqT
open Go.RowKit Go.Proofs.YtbeefbhoccdicaaW.PrintWords Go.Proofs.YtbeefbhoccdicaaW.PrintLast Go.Proofs.YtbeefbhoccdicaaW.PrintMore Go.Proofs.Ytbeefbhoccdicaa.QGraphReads Go.Proofs.Ytbeefbhoccdicaa.KernM
set_option linter.unusedVariables false
theorem info4 : (Try.prog.info? 4).map (fun i => (i.zero, i.size, i.bytes)) = some (some (.bool false), 1, 1) := by kernel_rfl
theorem info2 : (Try.prog.info? 2).map (fun i => (i.zero, i.size, i.bytes)) = some (some (.int .i64 0), 1, 8) := by kernel_rfl
set_option maxRecDepth 100000 in
theorem eq76 (w : World) : (Op.equalIn 9999 76 (.agg #[.bool false, .bool false, .bool false, .bool false, .bool false]) (.agg #[.bool false, .bool false, .bool false, .bool false, .bool false])).run Try.prog w = .ok true w := by
  obtain ⟨i, hi, _⟩ := Option.map_eq_some_iff.1 info4
  have h1 : Try.prog.cellsOf 4 = 1 := by kernel_rfl
  rw [run_equalIn_array w 9998 _ _ Try.underlying76 hi, h1, show List.range 5 = [0, 1, 2, 3, 4] from rfl]
  simp only [Op.eqItems]
  go_simp
set_option maxRecDepth 100000 in
theorem eq77 (w : World) : (Op.equalIn 9999 77 (.agg #[.int .i64 0, .int .i64 0, .int .i64 0, .int .i64 0, .int .i64 0]) (.agg #[.int .i64 0, .int .i64 0, .int .i64 0, .int .i64 0, .int .i64 0])).run Try.prog w = .ok true w := by
  obtain ⟨i, hi, _⟩ := Option.map_eq_some_iff.1 info2
  have h1 : Try.prog.cellsOf 2 = 1 := by kernel_rfl
  rw [run_equalIn_array w 9998 _ _ Try.underlying77 hi, h1, show List.range 5 = [0, 1, 2, 3, 4] from rfl]
  simp only [Op.eqItems]
  go_simp
end Go.Proofs.Ytbeefbhoccdicaa.EqT
