/- Plain arithmetic of signed numbers of 64 bits: what sums, differences, products and quotients come to, with no program in sight. -/
import Derived.RowKit
import Derived.Laws.MathBits
import Derived.Lib.Mul64
import Derived.OpenShut
namespace Go.Proofs.Ytkcngcmeiicpmaa.Plain
open Go.RowKit

/-- A signed number of 64 bits. -/
def In (a : Int) : Prop := -9223372036854775808 ≤ a ∧ a ≤ 9223372036854775807

/-- A number, or told to have no room. -/
def clip (n : Int) : Int × Int := if -9223372036854775808 ≤ n ∧ n ≤ 9223372036854775807 then (n, 0) else (0, 20)

theorem clip_in (n : Int) : In (clip n).1 := by
  unfold clip In
  split <;> simp <;> omega

theorem clip_yes {n : Int} (h : In n) : clip n = (n, 0) := by
  unfold clip
  exact if_pos h

theorem clip_no {n : Int} (h : ¬ In n) : clip n = (0, 20) := by
  unfold clip
  exact if_neg h

theorem clip_ok {n : Int} (h : (clip n).2 = 0) : In n := by
  refine Classical.byContradiction fun hc => ?_
  rw [clip_no hc] at h
  cases h

theorem wrap_in {a : Int} (h : In a) : wrap64 a = a := by
  unfold In at h
  unfold wrap64
  omega

theorem in_wf {a : Int} (h : (Lit.int .i64 a).wf = true) : In a := bounds_i64 h

theorem add_flag {a b : Int} (ha : In a) (hb : In b) : (decide (wrap64 (a + b) > a) != decide (b > 0)) = true ∧ b ≠ 0 ↔ ¬ In (a + b) := by
  unfold In at *
  unfold wrap64
  by_cases hp : b > 0
  · rw [decide_eq_true hp]
    simp
    omega
  · rw [decide_eq_false hp]
    simp
    omega

theorem sub_flag {a b : Int} (ha : In a) (hb : In b) : (decide (wrap64 (a - b) < a) != decide (b > 0)) = true ∧ b ≠ 0 ↔ ¬ In (a - b) := by
  unfold In at *
  unfold wrap64
  by_cases hp : b > 0
  · rw [decide_eq_true hp]
    simp
    omega
  · rw [decide_eq_false hp]
    simp
    omega

theorem flagged {p : Bool} {b n : Int} (h : p = true ∧ b ≠ 0 ↔ ¬ In n) : (if p = true then (if b = 0 then some (wrap64 n, (0 : Int)) else some (0, 20)) else some (wrap64 n, 0)) = some (clip n) := by
  by_cases hp : p = true
  · rw [if_pos hp]
    by_cases hb : b = 0
    · have : In n := Classical.byContradiction fun hc => (h.2 hc).2 hb
      rw [if_pos hb, clip_yes this, wrap_in this]
    · rw [if_neg hb, clip_no (h.1 ⟨hp, hb⟩)]
  · have : In n := Classical.byContradiction fun hc => hp (h.2 hc).1
    rw [if_neg hp, clip_yes this, wrap_in this]

/-- A number without its sign. -/
def mag (a : Int) : Int := if a < 0 then -a else a

theorem mag_range {a : Int} (h : In a) : 0 ≤ mag a ∧ mag a ≤ 9223372036854775808 := by
  unfold In at h
  unfold mag
  split <;> omega

theorem mag_mul (a b : Int) : mag (a * b) = mag a * mag b := by
  unfold mag
  by_cases ha : a < 0 <;> by_cases hb : b < 0
  · have := Int.mul_pos_of_neg_of_neg ha hb
    rw [if_neg (by omega), if_pos ha, if_pos hb, Int.neg_mul_neg]
  · rw [if_pos ha, if_neg hb, Int.neg_mul]
    rcases Int.lt_or_eq_of_le (Int.not_lt.1 hb) with h | h
    · have := Int.mul_neg_of_neg_of_pos ha h
      rw [if_pos this]
    · subst h; simp
  · rw [if_neg ha, if_pos hb, Int.mul_neg]
    rcases Int.lt_or_eq_of_le (Int.not_lt.1 ha) with h | h
    · have := Int.mul_neg_of_pos_of_neg h hb
      rw [if_pos this]
    · subst h; simp
  · have := Int.mul_nonneg (Int.not_lt.1 ha) (Int.not_lt.1 hb)
    rw [if_neg ha, if_neg hb, if_neg (by omega)]

/-- The sign of a product, unless it is 0. -/
theorem mul_below {a b : Int} (h : a * b ≠ 0) : (decide (a < 0) != decide (b < 0)) = decide (a * b < 0) := by
  have ha : a ≠ 0 := fun e => h (by rw [e]; simp)
  have hb : b ≠ 0 := fun e => h (by rw [e]; simp)
  by_cases h1 : a < 0 <;> by_cases h2 : b < 0
  · have := Int.mul_pos_of_neg_of_neg h1 h2
    rw [decide_eq_true h1, decide_eq_true h2, decide_eq_false (by omega)]; rfl
  · have := Int.mul_neg_of_neg_of_pos h1 (by omega : 0 < b)
    rw [decide_eq_true h1, decide_eq_false h2, decide_eq_true this]; rfl
  · have := Int.mul_neg_of_pos_of_neg (by omega : 0 < a) h2
    rw [decide_eq_false h1, decide_eq_true h2, decide_eq_true this]; rfl
  · have := Int.mul_pos (by omega : 0 < a) (by omega : 0 < b)
    rw [decide_eq_false h1, decide_eq_false h2, decide_eq_false (by omega)]; rfl

/-- A size of two halves and a sign, as a number that has room or not. -/
def signed (hi lo : Int) (below : Bool) : Int × Int := clip (if below = true then -(hi * 18446744073709551616 + lo) else hi * 18446744073709551616 + lo)

theorem mul_signed {a b : Int} : signed (mag a * mag b / 18446744073709551616) (mag a * mag b % 18446744073709551616) (decide (a < 0) != decide (b < 0)) = clip (a * b) := by
  unfold signed
  rw [Int.ediv_mul_add_emod, ← mag_mul]
  by_cases h0 : a * b = 0
  · rw [h0]
    have : mag 0 = 0 := rfl
    rw [this]; simp
  · rw [mul_below h0]
    unfold mag
    by_cases h : a * b < 0
    · rw [if_pos h, decide_eq_true h, if_pos rfl, Int.neg_neg]
    · rw [if_neg h, decide_eq_false h, if_neg (by decide)]

theorem size_neg {a : Int} (h : In a) (hn : a < 0) : IntKind.u64.wrap (-(IntKind.u64.wrap a)) = mag a := by
  unfold In at h
  unfold mag
  rw [if_pos hn]
  simp only [IntKind.wrap_u64]
  omega

theorem size_pos {a : Int} (h : In a) (hn : ¬ a < 0) : IntKind.u64.wrap a = mag a := by
  unfold In at h
  unfold mag
  rw [if_neg hn]
  simp only [IntKind.wrap_u64]
  omega

/-- A quotient towards 0, by the numbers without their signs. -/
theorem tdiv_mag (a b : Int) : Int.tdiv a b = if (decide (a < 0) != decide (b < 0)) = true then -(mag a / mag b) else mag a / mag b := by
  unfold mag
  by_cases ha : a < 0 <;> by_cases hb : b < 0
  · rw [decide_eq_true ha, decide_eq_true hb, if_neg (by decide), if_pos ha, if_pos hb, ← Int.tdiv_eq_ediv_of_nonneg (by omega), Int.neg_tdiv_neg]
  · rw [decide_eq_true ha, decide_eq_false hb, if_pos (by decide), if_pos ha, if_neg hb, ← Int.tdiv_eq_ediv_of_nonneg (by omega), Int.neg_tdiv, Int.neg_neg]
  · rw [decide_eq_false ha, decide_eq_true hb, if_pos (by decide), if_neg ha, if_pos hb, ← Int.tdiv_eq_ediv_of_nonneg (by omega), Int.tdiv_neg, Int.neg_neg]
  · rw [decide_eq_false ha, decide_eq_false hb, if_neg (by decide), if_neg ha, if_neg hb, Int.tdiv_eq_ediv_of_nonneg (by omega)]

theorem div_le {m n : Int} (hm : 0 ≤ m) (hn : 0 < n) : 0 ≤ m / n ∧ m / n ≤ m :=
  ⟨Int.ediv_nonneg hm (by omega), Int.ediv_le_self n hm⟩

theorem tdiv_in {a b : Int} (ha : In a) (hz : b ≠ 0) (h : a ≠ -9223372036854775808 ∨ b ≠ -1) : In (Int.tdiv a b) := by
  have ma := mag_range ha
  have hb0 : 0 < mag b := by unfold mag; split <;> omega
  have hq := div_le ma.1 hb0
  rw [tdiv_mag]
  by_cases hs : (decide (a < 0) != decide (b < 0)) = true
  · rw [if_pos hs]
    unfold In
    omega
  · rw [if_neg hs]
    have : mag a / mag b ≠ 9223372036854775808 := by
      intro hc
      have e : mag a = 9223372036854775808 := by omega
      have ea : a = -9223372036854775808 := by
        unfold In at ha
        unfold mag at e
        split at e <;> omega
      have hbn : b < 0 := by
        refine Classical.byContradiction fun hn => hs ?_
        rw [ea, decide_eq_false hn]
        rfl
      have hb2 : 2 ≤ mag b := by
        unfold mag
        rw [if_pos hbn]
        rcases h with h | h
        · exact absurd ea h
        · omega
      have h2 : mag a / mag b ≤ mag a / 2 := by
        rw [Int.le_ediv_iff_mul_le (by decide)]
        have h3 := Int.ediv_mul_le (mag a) (b := mag b) (by omega)
        have h4 : mag a / mag b * 2 ≤ mag a / mag b * mag b := Int.mul_le_mul_of_nonneg_left hb2 hq.1
        omega
      omega
    unfold In
    omega

/-- What bits.Mul64 says: the two halves of the product. -/
theorem mul64 {x y : Int} (hx : 0 ≤ x) (hx' : x < 18446744073709551616) (hy : 0 ≤ y) (hy' : y < 18446744073709551616) :
    IntKind.u64.wrap ((IntKind.u64.wrap ((IntKind.u64.wrap ((x / 4294967296) * (y / 4294967296))) + ((IntKind.u64.wrap ((IntKind.u64.wrap ((x / 4294967296) * (Go.bits .and .u64 y 4294967295))) + ((IntKind.u64.wrap ((Go.bits .and .u64 x 4294967295) * (Go.bits .and .u64 y 4294967295))) / 4294967296))) / 4294967296))) + ((IntKind.u64.wrap ((Go.bits .and .u64 (IntKind.u64.wrap ((IntKind.u64.wrap ((x / 4294967296) * (Go.bits .and .u64 y 4294967295))) + ((IntKind.u64.wrap ((Go.bits .and .u64 x 4294967295) * (Go.bits .and .u64 y 4294967295))) / 4294967296))) 4294967295) + (IntKind.u64.wrap ((Go.bits .and .u64 x 4294967295) * (y / 4294967296))))) / 4294967296)) = x * y / 18446744073709551616 := by
  obtain ⟨m, rfl⟩ := Int.eq_ofNat_of_zero_le hx
  obtain ⟨n, rfl⟩ := Int.eq_ofNat_of_zero_le hy
  have hm : m < 18446744073709551616 := by omega
  have hn : n < 18446744073709551616 := by omega
  obtain ⟨e1, e2, e3, e4⟩ := Lib.mul64_hi m n hm hn
  have ha := Lib.half_mul_le (a := m / 4294967296) (b := n / 4294967296) (by omega) (by omega)
  have hb := Lib.half_mul_le (a := m / 4294967296) (b := n % 4294967296) (by omega) (by omega)
  have hc := Lib.half_mul_le (a := m % 4294967296) (b := n / 4294967296) (by omega) (by omega)
  have hd := Lib.half_mul_le (a := m % 4294967296) (b := n % 4294967296) (by omega) (by omega)
  have i1 : ((m : Int) / 4294967296) * ((n : Int) / 4294967296) = ((m / 4294967296 * (n / 4294967296) : Nat) : Int) := by simp
  have i2 : ((m : Int) / 4294967296) * ((n : Int) % 4294967296) = ((m / 4294967296 * (n % 4294967296) : Nat) : Int) := by simp
  have i3 : ((m : Int) % 4294967296) * ((n : Int) / 4294967296) = ((m % 4294967296 * (n / 4294967296) : Nat) : Int) := by simp
  have i4 : ((m : Int) % 4294967296) * ((n : Int) % 4294967296) = ((m % 4294967296 * (n % 4294967296) : Nat) : Int) := by simp
  have i5 : (m : Int) * (n : Int) / 18446744073709551616 = ((m * n / 18446744073709551616 : Nat) : Int) := by simp
  rw [and_low32 _ (by omega) (by omega), and_low32 _ (by omega) (by omega), i1, i2, i3, i4, i5, ← e4]
  generalize m / 4294967296 * (n / 4294967296) = A at *
  generalize m / 4294967296 * (n % 4294967296) = B at *
  generalize m % 4294967296 * (n / 4294967296) = C at *
  generalize m % 4294967296 * (n % 4294967296) = D at *
  clear i1 i2 i3 i4 i5 e4
  have w1 : IntKind.u64.wrap (D : Int) = (D : Int) := by simp only [IntKind.wrap_u64]; omega
  have w2 : IntKind.u64.wrap (B : Int) = (B : Int) := by simp only [IntKind.wrap_u64]; omega
  have w3 : IntKind.u64.wrap (A : Int) = (A : Int) := by simp only [IntKind.wrap_u64]; omega
  have w4 : IntKind.u64.wrap (C : Int) = (C : Int) := by simp only [IntKind.wrap_u64]; omega
  rw [w1, w2, w3, w4]
  have w5 : IntKind.u64.wrap ((B : Int) + (D : Int) / 4294967296) = ((B + D / 4294967296 : Nat) : Int) := by simp only [IntKind.wrap_u64]; omega
  rw [w5, and_low32 _ (by omega) (by omega)]
  simp only [IntKind.wrap_u64]
  omega

end Go.Proofs.Ytkcngcmeiicpmaa.Plain
