/- The partition of a vertex: the code's and the document's, walked. -/
import Derived.Test.YtbeefbhoccdicaaBaseG
namespace Go.Proofs.Ytbeefbhoccdicaa.PartG
open Go.RowKit Go.Proofs.YtbeefbhoccdicaaW.PrintWords Go.Proofs.YtbeefbhoccdicaaW.PrintLast Go.Proofs.YtbeefbhoccdicaaW.PrintMore Go.Proofs.Ytbeefbhoccdicaa.QGraphReads
set_option linter.unusedVariables false

/-- The partition of an identity, of so many. -/
def part (id n : Int) : Int := if n < 1 then 0 else if Int.tmod id n < 0 then wrap64 (Int.tmod id n + n) else Int.tmod id n

theorem part_calls (w : World) (id n : Int) : Calls Try.prog 37 #[.int .i64 id, .int .i64 n] w fun e w' => e = .returned (.int .i64 (part id n)) ∧ Below w.heap.size w w' := by
  unfold part
  by_cases h1 : n < 1
  · rw [if_pos h1]
    go_enter Try.func37, Try.ntmps37
    go_wp2
    go_ret
    exact ⟨rfl, Below.refl _ _⟩
  · rw [if_neg h1]
    have hz : ¬ n = 0 := by omega
    by_cases h2 : Int.tmod id n < 0
    · rw [if_pos h2]
      go_enter Try.func37, Try.ntmps37
      go_wp2
      go_ret
      exact ⟨rfl, Below.refl _ _⟩
    · rw [if_neg h2]
      go_enter Try.func37, Try.ntmps37
      go_wp2
      go_ret
      exact ⟨rfl, Below.refl _ _⟩
theorem part_pure (w : World) (id n : Int) : Calls Try.prog 37 #[.int .i64 id, .int .i64 n] w fun e w' => e = .returned (.int .i64 (part id n)) ∧ w = w' := by
  unfold part
  by_cases h1 : n < 1
  · rw [if_pos h1]
    go_enter Try.func37, Try.ntmps37
    go_wp2
    go_ret
    exact ⟨rfl, rfl⟩
  · rw [if_neg h1]
    have hz : ¬ n = 0 := by omega
    by_cases h2 : Int.tmod id n < 0
    · rw [if_pos h2]
      go_enter Try.func37, Try.ntmps37
      go_wp2
      go_ret
      exact ⟨rfl, rfl⟩
    · rw [if_neg h2]
      go_enter Try.func37, Try.ntmps37
      go_wp2
      go_ret
      exact ⟨rfl, rfl⟩
theorem ref_calls (w : World) (id n : Int) : Calls Try.prog 38 #[.int .i64 id, .int .i64 n] w fun e w' => e = .returned (.int .i64 (part id n)) ∧ Below w.heap.size w w' := by
  unfold part
  by_cases h1 : n < 1
  · rw [if_pos h1]
    go_enter Try.func38, Try.ntmps38
    go_wp2
    go_ret
    exact ⟨rfl, Below.refl _ _⟩
  · rw [if_neg h1]
    have hz : ¬ n = 0 := by omega
    by_cases h2 : Int.tmod id n < 0
    · rw [if_pos h2]
      go_enter Try.func38, Try.ntmps38
      go_wp2
      go_ret
      exact ⟨rfl, Below.refl _ _⟩
    · rw [if_neg h2]
      go_enter Try.func38, Try.ntmps38
      go_wp2
      go_ret
      exact ⟨rfl, Below.refl _ _⟩
/-- A partition of so many, with room, lies between nought and so many. -/
theorem part_in (id n : Int) (h1 : 1 ≤ n) (h2 : n ≤ 1000) : 0 ≤ part id n ∧ part id n < n := by
  unfold part
  have h3 : ¬ n < 1 := by omega
  rw [if_neg h3]
  have h4 : Int.tmod id n < n := Int.tmod_lt_of_pos id (by omega)
  have h5 : -n < Int.tmod id n := by
    have := Int.tmod_lt_of_pos (-id) (show 0 < n by omega)
    rw [Int.neg_tmod] at this
    omega
  split
  · rename_i h
    have e : wrap64 (Int.tmod id n + n) = Int.tmod id n + n := by
      unfold wrap64; omega
    rw [e]; omega
  · omega

end Go.Proofs.Ytbeefbhoccdicaa.PartG
