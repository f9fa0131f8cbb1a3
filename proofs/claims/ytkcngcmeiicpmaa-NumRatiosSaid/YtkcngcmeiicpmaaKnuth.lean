/- Plain arithmetic of a long division's digit: the guess by the divisor's upper half, and when it is right. No program in sight. -/
import Derived.RowKit
import Derived.Laws.MathBits
namespace Go.Proofs.Ytkcngcmeiicpmaa.Knuth
open Go.RowKit

/-- What is known of a guess: U, V: the dividend; Y1, Y0: the divisor's halves; Q: the true digit; q, r: the guess and what it leaves. -/
structure Step (U V Y Y1 Y0 Q q r : Int) : Prop where
  hY : Y = Y1 * 4294967296 + Y0
  y1 : 2147483648 ≤ Y1 ∧ Y1 ≤ 4294967295
  y0 : 0 ≤ Y0 ∧ Y0 ≤ 4294967295
  v : 0 ≤ V ∧ V ≤ 4294967295
  u : 0 ≤ U ∧ U < Y
  hQ : Q = (U * 4294967296 + V) / Y
  hU : U = q * Y1 + r
  hr : 0 ≤ r ∧ r < 4294967296
  hq : Q ≤ q ∧ q ≤ 4294967297

variable {U V Y Y1 Y0 Q q r : Int}

theorem Step.pos (h : Step U V Y Y1 Y0 Q q r) : 0 < Y := by
  have := h.hY
  have := h.y1
  have := h.y0
  omega

theorem test_iff (hpos : 0 < Y) (hY : Y = Y1 * 4294967296 + Y0) (hQ : Q = (U * 4294967296 + V) / Y) (hU : U = q * Y1 + r) : Q < q ↔ 4294967296 * r + V < q * Y0 := by
  rw [hQ, Int.ediv_lt_iff_lt_mul hpos]
  have e : q * Y = q * Y1 * 4294967296 + q * Y0 := by rw [hY, Int.mul_add, Int.mul_assoc]
  have e2 : (q * Y1 + r) * 4294967296 = q * Y1 * 4294967296 + r * 4294967296 := Int.add_mul _ _ _
  rw [e, hU]
  omega

theorem Step.test (h : Step U V Y Y1 Y0 Q q r) : Q < q ↔ 4294967296 * r + V < q * Y0 := test_iff h.pos h.hY h.hQ h.hU

theorem Step.range (h : Step U V Y Y1 Y0 Q q r) : 0 ≤ Q ∧ Q ≤ 4294967295 := by
  have hp := h.pos
  have hu := h.u
  have hv := h.v
  constructor
  · rw [h.hQ]
    exact Int.ediv_nonneg (by omega) (by omega)
  · have : Q < 4294967296 := by
      rw [h.hQ, Int.ediv_lt_iff_lt_mul hp]
      omega
    omega

/-- The guess's product with the lower half, where the guess is a digit. -/
theorem Step.small (h : Step U V Y Y1 Y0 Q q r) (hlt : q ≤ 4294967295) : 0 ≤ q * Y0 ∧ q * Y0 ≤ 18446744065119617025 := by
  have h1 := h.range
  have h2 := h.hq
  have h3 := h.y0
  exact ⟨Int.mul_nonneg (by omega) h3.1, Int.mul_le_mul hlt h3.2 h3.1 (by decide)⟩

/-- The guess is too great: one less, and what it leaves is more. -/
theorem Step.next (h : Step U V Y Y1 Y0 Q q r) (hlt : Q < q) (hr : r + Y1 < 4294967296) : Step U V Y Y1 Y0 Q (q - 1) (r + Y1) := by
  have h1 := h.hr
  have h2 := h.y1
  have h3 := h.hq
  refine ⟨h.hY, h.y1, h.y0, h.v, h.u, h.hQ, ?_, by omega, by omega⟩
  have e := h.hU
  rw [Int.sub_mul]
  omega

/-- What it leaves is a digit too great: one less is right. -/
theorem Step.last (h : Step U V Y Y1 Y0 Q q r) (hlt : Q < q) (hr : 4294967296 ≤ r + Y1) : q - 1 = Q := by
  have h3 := h.hq
  have hv := h.v
  have hy := h.y0
  have hb := h.range
  have hU : U = (q - 1) * Y1 + (r + Y1) := by
    have e := h.hU
    rw [Int.sub_mul]
    omega
  have ht := test_iff h.pos h.hY h.hQ hU
  have hm : (q - 1) * Y0 ≤ 4294967296 * 4294967295 := Int.mul_le_mul (by omega) hy.2 hy.1 (by decide)
  have : ¬ Q < q - 1 := fun hc => by
    have := ht.1 hc
    omega
  omega

theorem Step.done (h : Step U V Y Y1 Y0 Q q r) (hle : ¬ Q < q) : q = Q := by
  have := h.hq
  omega

/-- The first guess. -/
theorem Step.first (hY : Y = Y1 * 4294967296 + Y0) (y1 : 2147483648 ≤ Y1 ∧ Y1 ≤ 4294967295) (y0 : 0 ≤ Y0 ∧ Y0 ≤ 4294967295) (v : 0 ≤ V ∧ V ≤ 4294967295) (u : 0 ≤ U ∧ U < Y) :
    Step U V Y Y1 Y0 ((U * 4294967296 + V) / Y) (U / Y1) (U - U / Y1 * Y1) := by
  have hm : U - U / Y1 * Y1 = U % Y1 := by
    have := Int.ediv_mul_add_emod U Y1
    omega
  have hr1 := Int.emod_nonneg U (b := Y1) (by omega)
  have hr2 := Int.emod_lt_of_pos U (b := Y1) (by omega)
  refine ⟨hY, y1, y0, v, u, rfl, by omega, by omega, ?_, ?_⟩
  · refine Classical.byContradiction fun hc => ?_
    have hc' : ¬ (U * 4294967296 + V) / Y < U / Y1 + 1 := by omega
    rw [Int.ediv_lt_iff_lt_mul (by omega)] at hc'
    have e : (U / Y1 + 1) * Y = (U / Y1 + 1) * Y1 * 4294967296 + (U / Y1 + 1) * Y0 := by rw [hY, Int.mul_add, Int.mul_assoc]
    have hn : 0 ≤ (U / Y1 + 1) * Y0 := Int.mul_nonneg (by have := Int.ediv_nonneg u.1 (show 0 ≤ Y1 by omega); omega) y0.1
    have e2 : (U / Y1 + 1) * Y1 = U / Y1 * Y1 + Y1 := by rw [Int.add_mul, Int.one_mul]
    omega
  · have : U / Y1 < 4294967298 := by
      rw [Int.ediv_lt_iff_lt_mul (by omega)]
      omega
    omega

end Go.Proofs.Ytkcngcmeiicpmaa.Knuth
