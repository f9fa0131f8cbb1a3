/- What the printed functions on numbers in bytes come to, in the plain words of PlainV. -/
import Derived.Test.YtbeefbhoccdicaaQGraphReadsx3
import Derived.Test.YtbeefbhoccdicaaQGraphReadsx6
import Derived.Test.YtbeefbhoccdicaaPlainV
import Derived.Test.YtbeefbhoccdicaaBaseG
import Derived.OpenShut
import Derived.Laws.BitsAllLaws
import Derived.Laws.DeepNot64
namespace Go.Proofs.Ytbeefbhoccdicaa.WireNum
open Go.RowKit Go.Proofs.YtbeefbhoccdicaaW.PrintWords Go.Proofs.YtbeefbhoccdicaaW.PrintLast Go.Proofs.YtbeefbhoccdicaaW.PrintMore Go.Proofs.Ytbeefbhoccdicaa.QGraphReads Go.Proofs.Ytbeefbhoccdicaa.PlainV

def foldZ (n : Int) : Int := if n < 0 then -2 * n - 1 else 2 * n
def unfoldZ (m : Int) : Int := if m % 2 = 1 then -1 - m / 2 else m / 2

theorem fold_un {n : Int} (h : In n) : Un (foldZ n) := by
  unfold In at h
  unfold foldZ Un
  split <;> omega
theorem unfold_in {m : Int} (h : Un m) : In (unfoldZ m) := by
  unfold Un at h
  unfold unfoldZ In
  split <;> omega
theorem unfold_fold (n : Int) : unfoldZ (foldZ n) = n := by
  unfold foldZ unfoldZ
  split <;> split <;> omega
theorem fold_unfold {m : Int} (h : Un m) : foldZ (unfoldZ m) = m := by
  unfold Un at h
  unfold foldZ unfoldZ
  split <;> split <;> omega

theorem xor_ones {x : Int} (h : Un x) : Go.bits .xor .u64 x 18446744073709551615 = 18446744073709551615 - x := by
  unfold Un at h
  obtain ⟨n, rfl⟩ := Int.eq_ofNat_of_zero_le h.1
  have hn : n < 2 ^ 64 := by simp; omega
  rw [show (18446744073709551615 : Int) = ((18446744073709551615 : Nat) : Int) from rfl, u64_xor_nat _ _ (by omega) (by omega)]
  have e : n ^^^ 18446744073709551615 = 18446744073709551615 - n := by
    have h3 : (BitVec.ofNat 64 n ^^^ BitVec.allOnes 64) = ~~~ BitVec.ofNat 64 n := BitVec.xor_allOnes
    have h4 := congrArg BitVec.toNat h3
    rw [BitVec.toNat_not, BitVec.toNat_xor, BitVec.toNat_allOnes, BitVec.toNat_ofNat, Nat.mod_eq_of_lt hn] at h4
    exact h4
  rw [e]
  omega

theorem xor_zero {x : Int} (h : Un x) : Go.bits .xor .u64 x 0 = x := by
  unfold Un at h
  obtain ⟨n, rfl⟩ := Int.eq_ofNat_of_zero_le h.1
  rw [show (0 : Int) = ((0 : Nat) : Int) from rfl, u64_xor_nat _ _ (by omega) (by omega)]
  simp

theorem wire_fold {n : Int} (h : In n) : wire_Fold.f n = some (foldZ n) := by
  unfold In at h
  unfold wire_Fold.f foldZ
  by_cases hn : n < 0
  · have e1 : IntKind.u64.wrap (n / 9223372036854775808) = 18446744073709551615 := by rw [IntKind.wrap_u64]; omega
    have e2 : IntKind.u64.wrap (IntKind.u64.wrap n * 2) = 2 * n + 18446744073709551616 := by simp only [IntKind.wrap_u64]; omega
    rw [e1, e2, xor_ones (by unfold Un; omega), if_pos hn]
    congr 1
    omega
  · have e1 : IntKind.u64.wrap (n / 9223372036854775808) = 0 := by rw [IntKind.wrap_u64]; omega
    have e2 : IntKind.u64.wrap (IntKind.u64.wrap n * 2) = 2 * n := by simp only [IntKind.wrap_u64]; omega
    rw [e1, e2, xor_zero (by unfold Un; omega), if_neg hn]

theorem ref_fold {n : Int} (h : In n) : cohortref01_Fold.f n = some (foldZ n) := by
  unfold In at h
  unfold cohortref01_Fold.f foldZ
  by_cases hn : n < 0
  · rw [if_pos hn, if_pos hn, wrap_in (by unfold In; omega)]
    simp only [IntKind.wrap_u64]
    congr 1
    omega
  · rw [if_neg hn, if_neg hn]
    simp only [IntKind.wrap_u64]
    congr 1
    omega

theorem and_one {x : Int} (h : Un x) : Go.bits .and .u64 x 1 = x % 2 := by
  unfold Un at h
  obtain ⟨n, rfl⟩ := Int.eq_ofNat_of_zero_le h.1
  rw [show (1 : Int) = ((1 : Nat) : Int) from rfl, u64_and_nat _ _ (by omega) (by omega), Nat.and_one_is_mod]
  simp

theorem xor_comm_i64 (a b : Int) : Go.bits .xor .i64 a b = Go.bits .xor .i64 b a := by
  simp only [bits, BitVec.xor_comm]
theorem xor_i64_ones {x : Int} (h : 0 ≤ x ∧ x ≤ 9223372036854775807) : Go.bits .xor .i64 x (-1) = -1 - x := by
  obtain ⟨n, rfl⟩ := Int.eq_ofNat_of_zero_le h.1
  rw [xor_comm_i64]
  exact i64_not n (by omega)
theorem xor_i64_zero {x : Int} (h : 0 ≤ x ∧ x ≤ 9223372036854775807) : Go.bits .xor .i64 x (-0) = x := by
  obtain ⟨n, rfl⟩ := Int.eq_ofNat_of_zero_le h.1
  show IntKind.i64.wrap ((BitVec.ofInt 64 (n : Int) ^^^ BitVec.ofInt 64 (-0)).toNat : Int) = _
  have h1 : BitVec.ofInt 64 (-0) = 0#64 := by decide
  rw [h1, BitVec.xor_zero, ofInt_u64 n (by omega)]
  simp [IntKind.wrap, IntKind.bits, IntKind.signed]
  omega

theorem wire_unfold {m : Int} (h : Un m) : wire_Unfold.f m = some (unfoldZ m) := by
  have h' := h
  unfold Un at h'
  unfold wire_Unfold.f unfoldZ
  rw [and_one h, wrap_in (a := m / 2) (by unfold In; omega), wrap_in (a := m % 2) (by unfold In; omega), wrap_in (by unfold In; omega)]
  by_cases hm : m % 2 = 1
  · rw [if_pos hm, hm, show (-1 : Int) = -1 from rfl, xor_i64_ones (by omega)]
  · rw [if_neg hm, show m % 2 = 0 from by omega]
    exact congrArg some (xor_i64_zero (by omega))

end Go.Proofs.Ytbeefbhoccdicaa.WireNum
