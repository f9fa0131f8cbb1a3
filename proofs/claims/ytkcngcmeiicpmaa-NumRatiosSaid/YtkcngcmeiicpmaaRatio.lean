/- The program's product over a third number, walked. -/
import Derived.Test.YtkcngcmeiicpmaaDiv
import Derived.Test.YtkcngcmeiicpmaaMul
namespace Go.Proofs.Ytkcngcmeiicpmaa.Ratio
open Go.RowKit Go.Proofs.YtkcngcmeiicpmaaW.PrintWords Go.Proofs.YtkcngcmeiicpmaaW.PrintLast Go.Proofs.YtkcngcmeiicpmaaW.PrintMore
open Go.Proofs.Ytkcngcmeiicpmaa.PNumSums Go.Proofs.Ytkcngcmeiicpmaa.Plain Go.Proofs.Ytkcngcmeiicpmaa.FnsNumSums Go.Proofs.Ytkcngcmeiicpmaa.Arr Go.Proofs.Ytkcngcmeiicpmaa.Mul Go.Proofs.Ytkcngcmeiicpmaa.Div
set_option linter.unusedVariables false

set_option maxHeartbeats 2000000 in
set_option maxRecDepth 100000 in
theorem ratio_walk (a b c x y z H L K : Int) (p q r : Bool) (P : Int × Int) (w : World) (hc : (c == 0) = false) (h1 : num_size.f a = some (x, p)) (h2 : num_size.f b = some (y, q)) (h3 : num_size.f c = some (z, r))
    (h4 : bits_Mul64.f x y = some (H, L)) (hH : 0 ≤ H) (hL : 0 ≤ L) (hL' : L ≤ 18446744073709551615) (hz : z ≤ 18446744073709551615)
    (hK : K = (H * 18446744073709551616 + L) / z) (hfar : z ≤ H → P = (0, 20)) (hnear : H < z → num_signed.f 1 0 K (K != 0 && (p != q) != r) = some P) :
    Calls Try.prog 19 #[.int .i64 a, .int .i64 b, .int .i64 c] w fun e w' => Said2 P e ∧ Drawn0 w w' := by
  have H1 := Lib.hid h1
  have H2 := Lib.hid h2
  have H3 := Lib.hid h3
  have H4 := Lib.hid h4
  have HF := Lib.hid hfar
  have HN := Lib.hid hnear
  have HK := Lib.hid hK
  clear h1 h2 h3 h4 hfar hnear hK
  by_cases hlt : H < z
  · have hn := HN.out hlt
    by_cases hk : K = 0
    · subst hk
      have hk1 : ((0 : Int) != 0 && (p != q) != r) = false := rfl
      rw [hk1] at hn
      have HN2 := Lib.hid hn
      clear HN HF hn hk1
      go_enter Try.func19, Try.ntmps19
      go_wp2_with fail
      refine (num_size.calls a x p _ H1.out).mono ?_
      rintro e w' ⟨rfl, ⟨n1, rfl⟩⟩
      go_wp2_with fail
      refine (num_size.calls b y q _ H2.out).mono ?_
      rintro e w' ⟨rfl, ⟨n2, rfl⟩⟩
      go_wp2_with fail
      refine (num_size.calls c z r _ H3.out).mono ?_
      rintro e w' ⟨rfl, ⟨n3, rfl⟩⟩
      go_wp2_with fail
      refine (bits_Mul64.calls x y H L _ H4.out).mono ?_
      rintro e w' ⟨rfl, ⟨n4, rfl⟩⟩
      go_wp2_with fail
      refine (div64 H L z _ hH hlt hL hL' hz).mono ?_
      rw [← HK.out]
      rintro e w' ⟨⟨rem, rfl⟩, ⟨n5, rfl⟩⟩
      go_wp2_with fail
      refine (num_signed.calls 1 0 0 false P.1 P.2 _ HN2.out).mono ?_
      rintro e w' ⟨rfl, ⟨n6, rfl⟩⟩
      go_wp2
      go_ret2
      exact ⟨rfl, by repeat (first | exact Drawn0.refl _ | apply Drawn0.step)⟩
    · have hk1 : (K != 0) = true := bne_iff_ne.2 hk
      rw [hk1, Bool.true_and] at hn
      have HN2 := Lib.hid hn
      clear HN HF hn hk
      go_enter Try.func19, Try.ntmps19
      go_wp2_with fail
      refine (num_size.calls a x p _ H1.out).mono ?_
      rintro e w' ⟨rfl, ⟨n1, rfl⟩⟩
      go_wp2_with fail
      refine (num_size.calls b y q _ H2.out).mono ?_
      rintro e w' ⟨rfl, ⟨n2, rfl⟩⟩
      go_wp2_with fail
      refine (num_size.calls c z r _ H3.out).mono ?_
      rintro e w' ⟨rfl, ⟨n3, rfl⟩⟩
      go_wp2_with fail
      refine (bits_Mul64.calls x y H L _ H4.out).mono ?_
      rintro e w' ⟨rfl, ⟨n4, rfl⟩⟩
      go_wp2_with fail
      refine (div64 H L z _ hH hlt hL hL' hz).mono ?_
      rw [← HK.out]
      rintro e w' ⟨⟨rem, rfl⟩, ⟨n5, rfl⟩⟩
      go_wp2_with fail
      refine (num_signed.calls 1 0 K ((p != q) != r) P.1 P.2 _ HN2.out).mono ?_
      rintro e w' ⟨rfl, ⟨n6, rfl⟩⟩
      go_wp2
      go_ret2
      exact ⟨rfl, by repeat (first | exact Drawn0.refl _ | apply Drawn0.step)⟩
  · have hp := HF.out (by omega)
    subst hp
    clear HN HF HK
    go_enter Try.func19, Try.ntmps19
    go_wp2_with fail
    refine (num_size.calls a x p _ H1.out).mono ?_
    rintro e w' ⟨rfl, ⟨n1, rfl⟩⟩
    go_wp2_with fail
    refine (num_size.calls b y q _ H2.out).mono ?_
    rintro e w' ⟨rfl, ⟨n2, rfl⟩⟩
    go_wp2_with fail
    refine (num_size.calls c z r _ H3.out).mono ?_
    rintro e w' ⟨rfl, ⟨n3, rfl⟩⟩
    go_wp2_with fail
    refine (bits_Mul64.calls x y H L _ H4.out).mono ?_
    rintro e w' ⟨rfl, ⟨n4, rfl⟩⟩
    go_wp2
    go_ret2
    exact ⟨rfl, by repeat (first | exact Drawn0.refl _ | apply Drawn0.step)⟩

/-- What both products over a third number come to. -/
def ratio (a b c : Int) : Int × Int := if c = 0 then (0, 21) else clip (if ((decide (a < 0) != decide (b < 0)) != decide (c < 0)) = true then -(mag a * mag b / mag c) else mag a * mag b / mag c)

theorem ratio_calls (a b c : Int) (w : World) (ha : In a) (hb : In b) (hc : In c) (h0 : c ≠ 0) :
    Calls Try.prog 19 #[.int .i64 a, .int .i64 b, .int .i64 c] w fun e w' => Said2 (ratio a b c) e ∧ Drawn0 w w' := by
  have ma := mag_range ha
  have mb := mag_range hb
  have mc := mag_range hc
  have hz0 : 0 < mag c := by unfold mag; split <;> omega
  have hn : 0 ≤ mag a * mag b := Int.mul_nonneg ma.1 mb.1
  have hk : mag a * mag b / 18446744073709551616 * 18446744073709551616 + mag a * mag b % 18446744073709551616 = mag a * mag b := Int.ediv_mul_add_emod _ _
  unfold ratio
  rw [if_neg h0]
  refine ratio_walk a b c (mag a) (mag b) (mag c) _ _ _ _ _ _ _ w (beq_eq_false_iff_ne.2 h0) (num_size ha) (num_size hb) (num_size hc) (num_mul64 ma.1 (by omega) mb.1 (by omega)) (by omega) (by omega) (by omega) (by omega) rfl ?_ ?_
  · intro h
    rw [clip_far]
    rw [Int.le_ediv_iff_mul_le hz0]
    omega
  · intro h
    rw [hk]
    have hq0 : 0 ≤ mag a * mag b / mag c := Int.ediv_nonneg hn (by omega)
    have hq1 : mag a * mag b / mag c < 18446744073709551616 := by
      rw [Int.ediv_lt_iff_lt_mul hz0]
      omega
    rw [num_signed _ (by omega) hq0 hq1]
    unfold signed
    by_cases e : mag a * mag b / mag c = 0
    · rw [e]
      cases (decide (a < 0) != decide (b < 0)) != decide (c < 0) <;> rfl
    · have e1 : (mag a * mag b / mag c != 0) = true := bne_iff_ne.2 e
      rw [e1, Bool.true_and, Int.zero_mul, Int.zero_add]

set_option maxHeartbeats 1000000 in
theorem ratio_zero (a b : Int) (w : World) : Calls Try.prog 19 #[.int .i64 a, .int .i64 b, .int .i64 0] w fun e w' => Said2 (ratio a b 0) e ∧ Drawn0 w w' := by
  go_enter Try.func19, Try.ntmps19
  go_wp2
  go_ret2
  exact ⟨rfl, Drawn0.refl _⟩

end Go.Proofs.Ytkcngcmeiicpmaa.Ratio
