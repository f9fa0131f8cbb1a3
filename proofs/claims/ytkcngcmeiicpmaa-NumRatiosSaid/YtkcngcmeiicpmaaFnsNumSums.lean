/- What the printed functions that NumSums reaches come to, in the plain words of YtkcngcmeiicpmaaPlain. -/
import Derived.Test.YtkcngcmeiicpmaaPNumSumsx1
import Derived.Test.YtkcngcmeiicpmaaPlain
namespace Go.Proofs.Ytkcngcmeiicpmaa.FnsNumSums
open Go.RowKit Go.Proofs.Ytkcngcmeiicpmaa.PNumSums Go.Proofs.Ytkcngcmeiicpmaa.Plain

theorem num_add {a b : Int} (ha : In a) (hb : In b) : num_Add.f a b = some (clip (a + b)) := by
  unfold num_Add.f
  exact flagged (add_flag ha hb)

theorem awake : cohortlaw02_awake.f = some true := by
  unfold cohortlaw02_awake.f
  rw [num_add (by unfold In; omega) (by unfold In; omega), num_add (by unfold In; omega) (by unfold In; omega)]
  rfl

theorem num_sub {a b : Int} (ha : In a) (hb : In b) : num_Sub.f a b = some (clip (a - b)) := by
  unfold num_Sub.f
  exact flagged (sub_flag ha hb)

theorem num_size {a : Int} (h : In a) : num_size.f a = some (mag a, decide (a < 0)) := by
  unfold num_size.f
  by_cases hn : a < 0
  · rw [if_pos hn, size_neg h hn, decide_eq_true hn]
  · rw [if_neg hn, size_pos h hn, decide_eq_false hn]

theorem num_mul64 {x y : Int} (hx : 0 ≤ x) (hx' : x < 18446744073709551616) (hy : 0 ≤ y) (hy' : y < 18446744073709551616) :
    bits_Mul64.f x y = some (x * y / 18446744073709551616, x * y % 18446744073709551616) := by
  unfold bits_Mul64.f
  rw [mul64 hx hx' hy hy', IntKind.wrap_u64]

theorem signed_no {k : Nat} {x : Int} {b : Bool} : num_signed.j0 (k + 1) x b true = some (0, 20) := by simp [num_signed.j0]
theorem signed_below {k : Nat} {x : Int} : num_signed.j0 (k + 1) x true false = some (wrap64 (IntKind.u64.wrap (-x)), 0) := by simp [num_signed.j0]
theorem signed_above {k : Nat} {x : Int} : num_signed.j0 (k + 1) x false false = some (wrap64 x, 0) := by simp [num_signed.j0]

theorem num_signed {k : Nat} {hi lo : Int} (b : Bool) (h0 : 0 ≤ hi) (l0 : 0 ≤ lo) (l1 : lo < 18446744073709551616) : num_signed.f (k + 1) hi lo b = some (signed hi lo b) := by
  unfold num_signed.f signed
  by_cases hh : hi = 0
  · subst hh
    rw [if_pos rfl]
    by_cases hl : lo > 9223372036854775808
    · rw [if_pos hl, signed_no, clip_no]
      unfold In
      cases b <;> simp <;> omega
    · rw [if_neg hl]
      cases b
      · rw [if_neg (by decide), if_neg (by decide)]
        by_cases h2 : lo > 9223372036854775807
        · rw [decide_eq_true h2, signed_no, clip_no]
          unfold In
          omega
        · have e : In (0 * 18446744073709551616 + lo) := by unfold In; omega
          rw [decide_eq_false h2, signed_above, clip_yes e, wrap_in (by unfold In; omega)]
          simp
      · have e : In (-(0 * 18446744073709551616 + lo)) := by unfold In; omega
        have e2 : wrap64 (IntKind.u64.wrap (-lo)) = -lo := by
          rw [IntKind.wrap_u64]
          unfold wrap64
          omega
        rw [if_pos rfl, if_pos rfl, signed_below, clip_yes e, e2]
        simp
  · rw [if_neg hh, signed_no, clip_no]
    unfold In
    cases b <;> simp <;> omega

theorem num_mul {k : Nat} {a b : Int} (ha : In a) (hb : In b) : num_Mul.f (k + 1) a b = some (clip (a * b)) := by
  have ma := mag_range ha
  have mb := mag_range hb
  have h0 : 0 ≤ mag a * mag b := Int.mul_nonneg ma.1 mb.1
  unfold num_Mul.f
  rw [num_size ha, num_size hb]
  simp only [Option.bind_some]
  rw [num_mul64 ma.1 (by omega) mb.1 (by omega)]
  simp only [Option.bind_some]
  rw [num_signed _ (by omega) (by omega) (by omega), mul_signed]
  rfl

theorem num_div {a b : Int} (ha : In a) : num_Div.f a b = some (if b = 0 then (0, 21) else clip (Int.tdiv a b)) := by
  unfold num_Div.f
  by_cases hz : b = 0
  · rw [if_pos hz, if_pos hz]
  · rw [if_neg hz, if_neg hz]
    by_cases h1 : a = -9223372036854775808
    · rw [if_pos h1]
      by_cases h2 : b = -1
      · subst h1 h2
        rw [if_pos rfl, clip_no (by unfold In; decide)]
      · have := tdiv_in ha hz (.inr h2)
        rw [if_neg h2, clip_yes this, wrap_in this]
    · have := tdiv_in ha hz (.inl h1)
      rw [if_neg h1, clip_yes this, wrap_in this]

theorem ref_add {a b : Int} (ha : In a) (hb : In b) : cohortref02_Add.f a b = some (clip (a + b)) := by
  unfold In at ha hb
  unfold cohortref02_Add.f
  by_cases hp : b > 0
  · have h1 : wrap64 (9223372036854775807 - b) = 9223372036854775807 - b := wrap_in (by unfold In; omega)
    rw [if_pos hp, h1]
    by_cases h : a > 9223372036854775807 - b
    · rw [if_pos h, clip_no (by unfold In; omega)]
    · have e : In (a + b) := by unfold In; omega
      rw [if_neg h, if_neg (by omega), clip_yes e, wrap_in e]
  · rw [if_neg hp]
    by_cases hn : b < 0
    · have h1 : wrap64 (-9223372036854775808 - b) = -9223372036854775808 - b := wrap_in (by unfold In; omega)
      rw [if_pos hn, h1]
      by_cases h : a < -9223372036854775808 - b
      · rw [if_pos h, clip_no (by unfold In; omega)]
      · have e : In (a + b) := by unfold In; omega
        rw [if_neg h, clip_yes e, wrap_in e]
    · have e : In (a + b) := by unfold In; omega
      rw [if_neg hn, clip_yes e, wrap_in e]

theorem ref_sub {a b : Int} (ha : In a) (hb : In b) : cohortref02_Sub.f a b = some (clip (a - b)) := by
  unfold In at ha hb
  unfold cohortref02_Sub.f
  by_cases hp : b < 0
  · have h1 : wrap64 (9223372036854775807 + b) = 9223372036854775807 + b := wrap_in (by unfold In; omega)
    rw [if_pos hp, h1]
    by_cases h : a > 9223372036854775807 + b
    · rw [if_pos h, clip_no (by unfold In; omega)]
    · have e : In (a - b) := by unfold In; omega
      rw [if_neg h, if_neg (by omega), clip_yes e, wrap_in e]
  · rw [if_neg hp]
    by_cases hn : b > 0
    · have h1 : wrap64 (-9223372036854775808 + b) = -9223372036854775808 + b := wrap_in (by unfold In; omega)
      rw [if_pos hn, h1]
      by_cases h : a < -9223372036854775808 + b
      · rw [if_pos h, clip_no (by unfold In; omega)]
      · have e : In (a - b) := by unfold In; omega
        rw [if_neg h, clip_yes e, wrap_in e]
    · have e : In (a - b) := by unfold In; omega
      rw [if_neg hn, clip_yes e, wrap_in e]

theorem ref_size {a : Int} (h : In a) : cohortref02_size.f a = some (mag a) := by
  unfold cohortref02_size.f
  by_cases hn : a < 0
  · have e : IntKind.u64.wrap (IntKind.u64.wrap (wrap64 (-1 - a)) + 1) = mag a := by
      unfold In at h
      rw [wrap_in (by unfold In; omega), IntKind.wrap_u64, IntKind.wrap_u64]
      unfold mag
      rw [if_pos hn]
      omega
    rw [if_pos hn, e]
  · rw [if_neg hn, size_pos h hn]

theorem ref_signed_least {k : Nat} {x : Int} {b : Bool} : cohortref02_signed.j0 (k + 1) x b true = some (-9223372036854775808, 0) := by simp [cohortref02_signed.j0]
theorem ref_signed_rest {k : Nat} {x : Int} {b : Bool} : cohortref02_signed.j0 (k + 1) x b false = (if x ≥ 9223372036854775808 then (some (0, 20)) else (if b = true then (some (wrap64 (-(wrap64 (x))), 0)) else (some (wrap64 (x), 0)))) := by
  simp only [cohortref02_signed.j0]
  exact if_neg (by decide)

theorem ref_signed {k : Nat} {lo : Int} (b : Bool) (l0 : 0 ≤ lo) : cohortref02_signed.f (k + 1) lo b = some (clip (if b = true then -lo else lo)) := by
  unfold cohortref02_signed.f
  cases b
  · rw [if_neg (by decide), if_neg (by decide), ref_signed_rest]
    by_cases h : lo ≥ 9223372036854775808
    · rw [if_pos h, clip_no (by unfold In; omega)]
    · have e : In lo := by unfold In; omega
      rw [if_neg h, if_neg (by decide), clip_yes e, wrap_in e]
  · rw [if_pos rfl, if_pos rfl]
    by_cases h1 : lo = 9223372036854775808
    · have e : (lo == 9223372036854775808) = true := beq_iff_eq.2 h1
      rw [e, ref_signed_least, h1]
      rfl
    · have e : (lo == 9223372036854775808) = false := beq_eq_false_iff_ne.2 h1
      rw [e, ref_signed_rest]
      by_cases h : lo ≥ 9223372036854775808
      · rw [if_pos h, clip_no (by unfold In; omega)]
      · have e1 : In lo := by unfold In; omega
        have e2 : In (-lo) := by unfold In; omega
        rw [if_neg h, if_pos rfl, wrap_in e1, wrap_in e2, clip_yes e2]

theorem ref_div {k : Nat} {a b : Int} (ha : In a) (hb : In b) : cohortref02_Div.f (k + 1) a b = some (if b = 0 then (0, 21) else clip (Int.tdiv a b)) := by
  have ma := mag_range ha
  have mb := mag_range hb
  unfold cohortref02_Div.f
  by_cases hz : b = 0
  · rw [if_pos hz, if_pos hz]
  · have hb0 : 0 < mag b := by unfold mag; split <;> omega
    have hq := div_le ma.1 hb0
    have e : IntKind.u64.wrap (Int.tdiv (mag a) (mag b)) = mag a / mag b := by
      rw [Int.tdiv_eq_ediv_of_nonneg ma.1, IntKind.wrap_u64]
      omega
    rw [if_neg hz, if_neg hz, ref_size ha, ref_size hb]
    simp only [Option.bind_some]
    rw [if_neg (by omega), e, ref_signed _ hq.1, ← tdiv_mag]
    rfl

end Go.Proofs.Ytkcngcmeiicpmaa.FnsNumSums
