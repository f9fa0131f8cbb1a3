/- What the printed functions that NumSigns reaches come to, in the plain words of YtkcngcmeiicpmaaPlain. -/
import Derived.Test.YtkcngcmeiicpmaaPNumSignsx1
import Derived.Test.YtkcngcmeiicpmaaPlain
namespace Go.Proofs.Ytkcngcmeiicpmaa.FnsNumSigns
open Go.RowKit Go.Proofs.Ytkcngcmeiicpmaa.PNumSigns Go.Proofs.Ytkcngcmeiicpmaa.Plain

theorem num_add {a b : Int} (ha : In a) (hb : In b) : num_Add.f a b = some (clip (a + b)) := by
  unfold num_Add.f
  exact flagged (add_flag ha hb)

theorem awake : cohortlaw02_awake.f = some true := by
  unfold cohortlaw02_awake.f
  rw [num_add (by unfold In; omega) (by unfold In; omega), num_add (by unfold In; omega) (by unfold In; omega)]
  rfl

theorem num_sub {a b : Int} (ha : In a) (hb : In b) : num_Sub.f a b = some (clip (a - b)) := by
  unfold num_Sub.f
  exact flagged (sub_flag ha hb)

theorem num_size {a : Int} (h : In a) : num_size.f a = some (mag a, decide (a < 0)) := by
  unfold num_size.f
  by_cases hn : a < 0
  · rw [if_pos hn, size_neg h hn, decide_eq_true hn]
  · rw [if_neg hn, size_pos h hn, decide_eq_false hn]

theorem num_mul64 {x y : Int} (hx : 0 ≤ x) (hx' : x < 18446744073709551616) (hy : 0 ≤ y) (hy' : y < 18446744073709551616) :
    bits_Mul64.f x y = some (x * y / 18446744073709551616, x * y % 18446744073709551616) := by
  unfold bits_Mul64.f
  rw [mul64 hx hx' hy hy', IntKind.wrap_u64]

theorem signed_no {k : Nat} {x : Int} {b : Bool} : num_signed.j0 (k + 1) x b true = some (0, 20) := by simp [num_signed.j0]
theorem signed_below {k : Nat} {x : Int} : num_signed.j0 (k + 1) x true false = some (wrap64 (IntKind.u64.wrap (-x)), 0) := by simp [num_signed.j0]
theorem signed_above {k : Nat} {x : Int} : num_signed.j0 (k + 1) x false false = some (wrap64 x, 0) := by simp [num_signed.j0]

theorem num_signed {k : Nat} {hi lo : Int} (b : Bool) (h0 : 0 ≤ hi) (l0 : 0 ≤ lo) (l1 : lo < 18446744073709551616) : num_signed.f (k + 1) hi lo b = some (signed hi lo b) := by
  unfold num_signed.f signed
  by_cases hh : hi = 0
  · subst hh
    rw [if_pos rfl]
    by_cases hl : lo > 9223372036854775808
    · rw [if_pos hl, signed_no, clip_no]
      unfold In
      cases b <;> simp <;> omega
    · rw [if_neg hl]
      cases b
      · rw [if_neg (by decide), if_neg (by decide)]
        by_cases h2 : lo > 9223372036854775807
        · rw [decide_eq_true h2, signed_no, clip_no]
          unfold In
          omega
        · have e : In (0 * 18446744073709551616 + lo) := by unfold In; omega
          rw [decide_eq_false h2, signed_above, clip_yes e, wrap_in (by unfold In; omega)]
          simp
      · have e : In (-(0 * 18446744073709551616 + lo)) := by unfold In; omega
        have e2 : wrap64 (IntKind.u64.wrap (-lo)) = -lo := by
          rw [IntKind.wrap_u64]
          unfold wrap64
          omega
        rw [if_pos rfl, if_pos rfl, signed_below, clip_yes e, e2]
        simp
  · rw [if_neg hh, signed_no, clip_no]
    unfold In
    cases b <;> simp <;> omega

theorem num_mul {k : Nat} {a b : Int} (ha : In a) (hb : In b) : num_Mul.f (k + 1) a b = some (clip (a * b)) := by
  have ma := mag_range ha
  have mb := mag_range hb
  have h0 : 0 ≤ mag a * mag b := Int.mul_nonneg ma.1 mb.1
  unfold num_Mul.f
  rw [num_size ha, num_size hb]
  simp only [Option.bind_some]
  rw [num_mul64 ma.1 (by omega) mb.1 (by omega)]
  simp only [Option.bind_some]
  rw [num_signed _ (by omega) (by omega) (by omega), mul_signed]
  rfl

end Go.Proofs.Ytkcngcmeiicpmaa.FnsNumSigns
