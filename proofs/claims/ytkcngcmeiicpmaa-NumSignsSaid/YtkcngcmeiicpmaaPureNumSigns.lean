/- The plain law of NumSigns: sums and products are the same the other way round, and a product with one sign turned is the product with its sign turned, where there is room: of any two signed numbers of 64 bits. -/
import Derived.Test.YtkcngcmeiicpmaaFnsNumSigns
namespace Go.Proofs.Ytkcngcmeiicpmaa.Pure
open Go.RowKit Go.Proofs.Ytkcngcmeiicpmaa.PNumSigns Go.Proofs.Ytkcngcmeiicpmaa.Plain Go.Proofs.Ytkcngcmeiicpmaa.FnsNumSigns

namespace NumSignsAid
theorem last (k : Nat) {a z : Int} {n : Int} (ha : In a) (hn : In n) (hz : In z) (h : a * n = -z) : cohortlaw02_NumSigns.j1 (k + 2) a z n false = some true := by
  simp only [cohortlaw02_NumSigns.j1]
  rw [if_neg (by decide), num_mul ha hn, num_sub (by unfold In; omega) hz]
  simp only [Option.bind_some]
  rw [h, show (0 : Int) - z = -z from by omega]
  by_cases e : (clip (-z)).2 = 0
  · rw [if_pos e, if_pos e]
    simp
  · rw [if_neg e]

theorem rest (k : Nat) {a b : Int} (ha : In a) (hb : In b) : cohortlaw02_NumSigns.j0 (k + 3) a b (clip (a * b)).1 (clip (a * b)).2 false = some true := by
  simp only [cohortlaw02_NumSigns.j0]
  rw [if_neg (by decide), num_sub (by unfold In; omega) hb]
  simp only [Option.bind_some]
  have up : ∀ x y z, cohortlaw02_NumSigns.j1 (k + 2) x y z true = some true := fun x y z => by simp [cohortlaw02_NumSigns.j1]
  by_cases e : (clip (0 - b)).2 = 0
  · rw [if_pos e]
    have hn := clip_ok e
    by_cases g : (clip (a * b)).2 = 0
    · have hz := clip_ok g
      have hg : ((clip (a * b)).2 != 0) = false := bne_eq_false_iff_eq.2 g
      rw [hg, clip_yes hn, clip_yes hz]
      exact last k ha hn hz (by rw [Int.zero_sub, Int.mul_neg])
    · have hg : ((clip (a * b)).2 != 0) = true := bne_iff_ne.2 g
      rw [hg, up]
  · rw [if_neg e, up]
end NumSignsAid

open NumSignsAid in
/-- The plain law. -/
theorem NumSigns : cohortlaw02_NumSigns.Pure := by
  intro a b ha hb
  replace ha := in_wf ha
  replace hb := in_wf hb
  refine ⟨0 + 3, ?_⟩
  unfold cohortlaw02_NumSigns.f
  rw [num_add ha hb, num_add hb ha, num_mul ha hb, num_mul hb ha, awake, Int.add_comm b a, Int.mul_comm b a]
  simp only [Option.bind_some]
  have e : ((clip (a * b)).2 != (clip (a * b)).2) = false := by simp
  rw [e, if_pos trivial, if_pos trivial, if_pos trivial, if_pos trivial]
  exact rest 0 ha hb

end Go.Proofs.Ytkcngcmeiicpmaa.Pure
