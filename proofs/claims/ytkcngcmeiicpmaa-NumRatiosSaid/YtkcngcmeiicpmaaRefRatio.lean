/- The document's product over a third number, walked. -/
import Derived.Test.YtkcngcmeiicpmaaRatio
import Derived.Test.YtkcngcmeiicpmaaOver
namespace Go.Proofs.Ytkcngcmeiicpmaa.RefRatio
open Go.RowKit Go.Proofs.YtkcngcmeiicpmaaW.PrintWords Go.Proofs.YtkcngcmeiicpmaaW.PrintLast Go.Proofs.YtkcngcmeiicpmaaW.PrintMore
open Go.Proofs.Ytkcngcmeiicpmaa.PNumSums Go.Proofs.Ytkcngcmeiicpmaa.Plain Go.Proofs.Ytkcngcmeiicpmaa.FnsNumSums Go.Proofs.Ytkcngcmeiicpmaa.Arr Go.Proofs.Ytkcngcmeiicpmaa.Mul Go.Proofs.Ytkcngcmeiicpmaa.Ratio Go.Proofs.Ytkcngcmeiicpmaa.Over
set_option linter.unusedVariables false

theorem num4_eq {x y : Int} (ha : 0 ≤ x) (hb : 0 ≤ y) (ha' : x ≤ 9223372036854775808) (hb' : y ≤ 9223372036854775808) :
    num4 (c0 x y % 4294967296) (d0 x y % 4294967296) (d1 x y % 4294967296) (d1 x y / 4294967296) = x * y ∧ d1 x y / 4294967296 ≤ 4294967295 ∧ 0 ≤ d1 x y := by
  obtain ⟨h1, h2, h3⟩ := halves ha hb (by omega) (by omega)
  have hm : x * y ≤ 9223372036854775808 * 9223372036854775808 := Int.mul_le_mul ha' hb' hb (by decide)
  unfold num4
  omega

set_option maxHeartbeats 4000000 in
set_option maxRecDepth 100000 in
theorem ratio_walk (a b c x y z N : Int) (p q r : Bool) (ep : decide (a < 0) = p) (eq : decide (b < 0) = q) (er : decide (c < 0) = r) (P : Int × Int) (w : World) (hc : (c == 0) = false) (ma : 0 ≤ x) (ma' : x ≤ 9223372036854775808) (mb : 0 ≤ y) (mb' : y ≤ 9223372036854775808) (mc : 1 ≤ z) (mc' : z ≤ 9223372036854775808)
    (ra : cohortref02_size.f a = some x) (rb : cohortref02_size.f b = some y) (rc : cohortref02_size.f c = some z)
    (hN : num4 (c0 x y % 4294967296) (d0 x y % 4294967296) (d1 x y % 4294967296) (d1 x y / 4294967296) = N) (hd : 0 ≤ d1 x y) (hd' : d1 x y / 4294967296 ≤ 4294967295)
    (hfar : 18446744073709551616 ≤ N / z → P = (0, 20)) (hnear : N / z ≤ 18446744073709551615 → cohortref02_signed.f 1 (N / z) ((p != q) != r && N / z != 0) = some P) :
    Calls Try.prog 20 #[.int .i64 a, .int .i64 b, .int .i64 c] w fun e w' => Said2 P e ∧ Below w.heap.size w w' := by
  have HRa := Lib.hid ra
  have HRb := Lib.hid rb
  have HRc := Lib.hid rc
  have HN := Lib.hid hN
  have HF := Lib.hid hfar
  have HS := Lib.hid hnear
  clear ra rb rc hN hfar hnear
  have hov := fun w => over_calls (c0 x y % 4294967296) (d0 x y % 4294967296) (d1 x y % 4294967296) (d1 x y / 4294967296) z w (by omega) (by omega) (by omega) (by omega) (by omega)
  rw [HN.out] at hov
  have HO := Lib.hid hov
  clear hov HN
  have hbel : ∀ (n1 n2 n3 : Nat) (w1 w2 : World), Below (w.drewN (n1 + n2)).heap.size (w.drewN (n1 + n2)) w1 → Below (w1.drewN n3).heap.size (w1.drewN n3) w2 → Below w.heap.size w w2 := fun n1 n2 n3 w1 w2 h1 h2 =>
    ((below_drewN (Below.refl _ w) _).trans h1).trans ((below_drewN (Below.refl _ w1) n3).trans (h2.mono (Nat.le_refl _)) |>.mono h1.size)
  go_enter Try.func20, Try.ntmps20
  go_wp2_with fail
  refine (cohortref02_size.calls a x _ HRa.out).mono ?_
  rintro e w' ⟨rfl, ⟨n1, rfl⟩⟩
  go_wp2_with fail
  refine (cohortref02_size.calls b y _ HRb.out).mono ?_
  rintro e w' ⟨rfl, ⟨n2, rfl⟩⟩
  go_wp2_with fail
  refine (product_calls x y _ ma mb (by omega) (by omega)).mono ?_
  rintro e w1 ⟨he, hw1⟩
  unfold Arr.Prod at he
  subst he
  go_wp2_with fail
  refine (cohortref02_size.calls c z _ HRc.out).mono ?_
  rintro e w' ⟨rfl, ⟨n3, rfl⟩⟩
  go_wp2_with fail
  refine (HO.out _).mono ?_
  rintro e w2 ⟨⟨hq, rfl⟩ | ⟨hq, rfl⟩, hw2⟩
  · have hs := HS.out hq
    have HS2 := Lib.hid hs
    clear hs HS HF HO
    cases p <;> cases q <;> cases r
    all_goals
      go_wp2_with fail
      refine (cohortref02_signed.calls 1 (N / z) _ P.1 P.2 _ HS2.out).mono ?_
      rintro e w' ⟨rfl, ⟨n4, rfl⟩⟩
      go_wp2
      go_ret2
      exact ⟨rfl, below_drewN (hbel n1 n2 n3 w1 w2 hw1 hw2) _⟩
  · have hp := HF.out hq
    subst hp
    clear HS HF HO
    go_wp2
    go_ret2
    exact ⟨rfl, hbel n1 n2 n3 w1 w2 hw1 hw2⟩

theorem ratio_calls (a b c : Int) (w : World) (ha : In a) (hb : In b) (hc : In c) (h0 : c ≠ 0) :
    Calls Try.prog 20 #[.int .i64 a, .int .i64 b, .int .i64 c] w fun e w' => Said2 (ratio a b c) e ∧ Below w.heap.size w w' := by
  have ma := mag_range ha
  have mb := mag_range hb
  have mc := mag_range hc
  have hz0 : 0 < mag c := by unfold mag; split <;> omega
  obtain ⟨h1, h2, h3⟩ := num4_eq ma.1 mb.1 ma.2 mb.2
  unfold ratio
  rw [if_neg h0]
  refine ratio_walk a b c (mag a) (mag b) (mag c) _ _ _ _ rfl rfl rfl _ w (beq_eq_false_iff_ne.2 h0) ma.1 ma.2 mb.1 mb.2 hz0 mc.2 (ref_size ha) (ref_size hb) (ref_size hc) h1 h3 h2 ?_ ?_
  · intro h
    rw [clip_far h]
  · intro h
    have hq0 : 0 ≤ mag a * mag b / mag c := Int.ediv_nonneg (Int.mul_nonneg ma.1 mb.1) (by omega)
    rw [ref_signed _ hq0]
    by_cases e : mag a * mag b / mag c = 0
    · rw [e]
      cases (decide (a < 0) != decide (b < 0)) != decide (c < 0) <;> rfl
    · have e1 : (mag a * mag b / mag c != 0) = true := bne_iff_ne.2 e
      rw [e1, Bool.and_true]

set_option maxHeartbeats 1000000 in
theorem ratio_zero (a b : Int) (w : World) : Calls Try.prog 20 #[.int .i64 a, .int .i64 b, .int .i64 0] w fun e w' => Said2 (ratio a b 0) e ∧ Below w.heap.size w w' := by
  go_enter Try.func20, Try.ntmps20
  go_wp2
  go_ret2
  exact ⟨rfl, Below.refl _ _⟩

end Go.Proofs.Ytkcngcmeiicpmaa.RefRatio
