/- The document's product of two numbers, walked: it is the product, or told to have no room. -/
import Derived.Test.YtkcngcmeiicpmaaArr
import Derived.Test.YtkcngcmeiicpmaaFnsNumSums
namespace Go.Proofs.Ytkcngcmeiicpmaa.Mul
open Go.RowKit Go.Proofs.YtkcngcmeiicpmaaW.PrintWords Go.Proofs.YtkcngcmeiicpmaaW.PrintLast Go.Proofs.YtkcngcmeiicpmaaW.PrintMore
open Go.Proofs.Ytkcngcmeiicpmaa.PNumSums Go.Proofs.Ytkcngcmeiicpmaa.Plain Go.Proofs.Ytkcngcmeiicpmaa.FnsNumSums Go.Proofs.Ytkcngcmeiicpmaa.Arr

theorem clip_prod {a b : Int} : clip (if (decide (a < 0) != decide (b < 0)) = true then -(mag a * mag b) else mag a * mag b) = clip (a * b) := by
  have h := mul_signed (a := a) (b := b)
  unfold signed at h
  rwa [Int.ediv_mul_add_emod] at h

theorem clip_far {m : Int} {s : Bool} (h : 18446744073709551616 ≤ m) : clip (if s = true then -m else m) = (0, 20) := by
  apply clip_no
  unfold In
  cases s <;> simp <;> omega

/-- A number and an error are what is returned. -/
def Said2 (p : Int × Int) (e : Ending) : Prop := e = .returned (.tuple #[.int .i64 p.1, .int .i64 p.2])

theorem Said2.of {p q : Int × Int} (h : p = q) : Said2 p (.returned (.tuple #[.int .i64 q.1, .int .i64 q.2])) := by rw [h]; rfl

/-- The walk, from where the two sizes and their product are known. -/
theorem mul_walk (a b x y n : Int) (p : Int × Int) (w : World) (ma : 0 ≤ x) (ma' : x ≤ 9223372036854775808) (mb : 0 ≤ y) (mb' : y ≤ 9223372036854775808) (ra : cohortref02_size.f a = some x) (rb : cohortref02_size.f b = some y)
    (hn : c0 x y % 4294967296 + d0 x y % 4294967296 * 4294967296 = n)
    (hfar : d1 x y % 4294967296 ≠ 0 ∨ d1 x y / 4294967296 ≠ 0 → p = (0, 20))
    (hnear : d1 x y % 4294967296 = 0 → d1 x y / 4294967296 = 0 → cohortref02_signed.f 1 n (decide (a < 0) != decide (b < 0)) = some p) :
    Calls Try.prog 17 #[.int .i64 a, .int .i64 b] w fun e w' => Said2 p e ∧ Below w.heap.size w w' := by
  have HRa := Lib.hid ra
  have HRb := Lib.hid rb
  have HN := Lib.hid hn
  have HF := Lib.hid hfar
  have HS := Lib.hid hnear
  clear ra rb hn hfar hnear
  by_cases g2 : d1 x y % 4294967296 = 0
  · by_cases g3 : d1 x y / 4294967296 = 0
    · have hs := HS.out g2 g3
      have HS2 := Lib.hid hs
      have G2 := Lib.hid g2
      have G3 := Lib.hid g3
      clear hs HS HF g2 g3
      go_enter Try.func17, Try.ntmps17
      go_wp2_with fail
      refine (cohortref02_size.calls a x _ HRa.out).mono ?_
      rintro e w' ⟨rfl, ⟨n1, rfl⟩⟩
      go_wp2_with fail
      refine (cohortref02_size.calls b y _ HRb.out).mono ?_
      rintro e w' ⟨rfl, ⟨n2, rfl⟩⟩
      go_wp2_with fail
      refine (product_calls x y _ ma mb (by omega) (by omega)).mono ?_
      rintro e w1 ⟨he, hw1⟩
      unfold Arr.Prod at he
      rw [G2.out, G3.out] at he
      subst he
      go_wp2_with fail
      rw [HN.out]
      refine (cohortref02_signed.calls 1 n _ p.1 p.2 _ HS2.out).mono ?_
      rintro e w' ⟨rfl, ⟨n3, rfl⟩⟩
      go_wp2
      go_ret2
      refine ⟨rfl, ?_⟩
      exact below_drewN (((below_drewN (Below.refl _ w) _).trans hw1).alloc (by have := hw1.size; simpa using this) _) _
    · have hfar := HF.out (.inr g3)
      subst hfar
      have G2 := Lib.hid g2
      clear HF HS g2
      go_enter Try.func17, Try.ntmps17
      go_wp2_with fail
      refine (cohortref02_size.calls a x _ HRa.out).mono ?_
      rintro e w' ⟨rfl, ⟨n1, rfl⟩⟩
      go_wp2_with fail
      refine (cohortref02_size.calls b y _ HRb.out).mono ?_
      rintro e w' ⟨rfl, ⟨n2, rfl⟩⟩
      go_wp2_with fail
      refine (product_calls x y _ ma mb (by omega) (by omega)).mono ?_
      rintro e w1 ⟨he, hw1⟩
      unfold Arr.Prod at he
      rw [G2.out] at he
      subst he
      go_wp2
      go_ret2
      refine ⟨rfl, ?_⟩
      exact ((below_drewN (Below.refl _ w) _).trans hw1).alloc (by have := hw1.size; simpa using this) _
  · have hfar := HF.out (.inl g2)
    subst hfar
    clear HF HS
    go_enter Try.func17, Try.ntmps17
    go_wp2_with fail
    refine (cohortref02_size.calls a x _ HRa.out).mono ?_
    rintro e w' ⟨rfl, ⟨n1, rfl⟩⟩
    go_wp2_with fail
    refine (cohortref02_size.calls b y _ HRb.out).mono ?_
    rintro e w' ⟨rfl, ⟨n2, rfl⟩⟩
    go_wp2_with fail
    refine (product_calls x y _ ma mb (by omega) (by omega)).mono ?_
    rintro e w1 ⟨he, hw1⟩
    unfold Arr.Prod at he
    subst he
    go_wp2
    go_ret2
    refine ⟨rfl, ?_⟩
    exact ((below_drewN (Below.refl _ w) _).trans hw1).alloc (by have := hw1.size; simpa using this) _

theorem mul_calls (a b : Int) (w : World) (ha : In a) (hb : In b) :
    Calls Try.prog 17 #[.int .i64 a, .int .i64 b] w fun e w' => Said2 (clip (a * b)) e ∧ Below w.heap.size w w' := by
  obtain ⟨ma, ma'⟩ := mag_range ha
  obtain ⟨mb, mb'⟩ := mag_range hb
  obtain ⟨h1, h2, h3⟩ := halves ma mb (by omega) (by omega)
  refine mul_walk a b (mag a) (mag b) (mag a * mag b % 18446744073709551616) _ w ma ma' mb mb' (ref_size ha) (ref_size hb) ?_ ?_ ?_
  · exact h1
  · intro h
    rw [← clip_prod, clip_far]
    omega
  · intro g2 g3
    have e : mag a * mag b % 18446744073709551616 = mag a * mag b := by omega
    rw [e, ref_signed _ (Int.mul_nonneg ma mb), clip_prod]

end Go.Proofs.Ytkcngcmeiicpmaa.Mul
