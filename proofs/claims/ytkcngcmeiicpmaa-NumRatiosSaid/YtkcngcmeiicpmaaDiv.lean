/- math/bits.Div64, walked: where the higher half is below the divisor, its first result is the quotient of the whole 128 bits. -/
import Derived.Test.YtkcngcmeiicpmaaArr
import Derived.Test.YtkcngcmeiicpmaaShelf
import Derived.Test.YtkcngcmeiicpmaaKnuth
import Derived.LoopTactic
import Derived.Deep.DeepCutAuto
import Derived.Deep.CutBlock
import Derived.Laws.BitsAllLaws
import Derived.WalkLawsBesides
namespace Go.Proofs.Ytkcngcmeiicpmaa.Div
open Go.RowKit Go.Proofs.Ytkcngcmeiicpmaa.Knuth Go.Proofs.YtkcngcmeiicpmaaW.PrintWords Go.Proofs.YtkcngcmeiicpmaaW.PrintLast Go.Proofs.YtkcngcmeiicpmaaW.PrintMore

set_option linter.unusedVariables false

set_option maxHeartbeats 1000000 in
set_option maxRecDepth 100000 in
theorem walk_zero (lo y : Int) (w : World) (hlo : 0 ≤ lo) (hlo' : lo ≤ 18446744073709551615) (hy : 1 ≤ y) (hy' : y ≤ 18446744073709551615) :
    Calls Try.prog 27 #[.int .u64 0, .int .u64 lo, .int .u64 y] w fun e w' => e = .returned (.tuple #[.int .u64 (lo / y), .int .u64 (lo % y)]) ∧ Drawn0 w w' := by
  have y0 : (y == 0) = false := by rw [beq_eq_false_iff_ne]; omega
  go_enter Try.func27, Try.ntmps27
  go_wp2
  go_quiet (fail)
  go_wp2
  go_ret2
  exact ⟨rfl, (Drawn0.refl _).step _⟩

/-- A quotient and some rest are what is returned. -/
def Div1 (q : Int) (e : Ending) : Prop := ∃ r, e = .returned (.tuple #[.int .u64 q, .int .u64 r])

set_option maxHeartbeats 4000000 in
set_option maxRecDepth 100000 in
theorem walk_core (hi lo y Y U V Y1 Y0 V1 V0 Q1 R Q0 q1 q0 r1 r0 : Int) (s : Nat) (w : World) (hs : s ≤ 63) (hhi : 1 ≤ hi) (hhi' : hi < y) (hlo : 0 ≤ lo) (hlo' : lo ≤ 18446744073709551615) (hy' : y ≤ 18446744073709551615)
    (hH : 0 ≤ hi * 2 ^ s) (hH' : hi * 2 ^ s ≤ 18446744073709551615)
    (hYb : 9223372036854775808 ≤ Y ∧ Y ≤ 18446744073709551615) (hUb : 0 ≤ U ∧ U ≤ 18446744073709551615) (hVb : 0 ≤ V ∧ V ≤ 18446744073709551615) (hRb : 0 ≤ R ∧ R ≤ 18446744073709551615)
    (eY : y * 2 ^ s = Y) (eU : bits .or .u64 (hi * 2 ^ s) (lo / 2 ^ (64 - s)) = U) (eV : IntKind.u64.wrap (lo * 2 ^ s) = V)
    (eY1 : Y / 4294967296 = Y1) (eY0 : bits .and .u64 Y 4294967295 = Y0) (eV1 : V / 4294967296 = V1) (eV0 : bits .and .u64 V 4294967295 = V0)
    (eq1 : U / Y1 = q1) (er1 : U - q1 * Y1 = r1) (bq1 : 0 ≤ q1 * Y1 ∧ q1 * Y1 ≤ U) (S1 : Step U V1 Y Y1 Y0 Q1 q1 r1)
    (eR : IntKind.u64.wrap (IntKind.u64.wrap (IntKind.u64.wrap (U * 4294967296) + V1) - IntKind.u64.wrap (Q1 * Y)) = R)
    (eq0 : R / Y1 = q0) (er0 : R - q0 * Y1 = r0) (bq0 : 0 ≤ q0 * Y1 ∧ q0 * Y1 ≤ R) (S0 : Step R V0 Y Y1 Y0 Q0 q0 r0)
    (hlz : ∀ w, Calls Try.prog 29 #[.int .u64 y] w fun e w' => e = .returned (.int .i64 s) ∧ w = w') :
    Calls Try.prog 27 #[.int .u64 hi, .int .u64 lo, .int .u64 y] w fun e w' => Div1 (Q1 * 4294967296 + Q0) e ∧ Drawn0 w w' := by
  have y0 : (y == 0) = false := by rw [beq_eq_false_iff_ne]; omega
  have hi0 : (hi == 0) = false := by rw [beq_eq_false_iff_ne]; omega
  have HL := Lib.hid hlz
  have HS1 := Lib.hid S1
  have HS0 := Lib.hid S0
  have y1 := S1.y1
  have v1 := S1.v
  have q1b := S1.hq
  have r1b := S1.hr
  have Q1b := S1.range
  clear hlz S1 S0
  go_enter Try.func27, Try.ntmps27
  go_wp2_with fail
  refine (HL.out _).mono ?_
  rintro e w' ⟨rfl, rfl⟩
  go_upto_block 0 with (fail)
  go_cut [15, 16] (fun sq sr wx => sq = .int .u64 Q1 ∧ (∃ r, sr = .int .u64 r) ∧ w = wx)
  case first =>
    go_wp2
    have EQ1 := Lib.hid eq1
    clear eR eq0 er0 eq1 eY eU eV eY1 eY0 eV1 eV0 er1
    go_loop [15, 16] (fun sq sr => ∃ q r : Int, sq = .int .u64 q ∧ sr = .int .u64 r ∧ Hid (Step U V1 Y Y1 Y0 Q1 q r)) (fun sq _ => (intOf sq).toNat)
    case atStart => exact ⟨q1, r1, by rw [EQ1.out], rfl, HS1⟩
    case round =>
      obtain ⟨q, r, rfl, rfl, hS⟩ := hrel
      clear HS1
      have S := hS.out
      have rb := S.hr
      have qb := S.hq
      by_cases hc : Q1 < q
      · by_cases hb : 4294967296 ≤ q
        · by_cases hr : 4294967296 ≤ r + Y1
          · have hl := (S.last hc hr).symm
            clear S
            go_wp2
            go_meet
            exact ⟨by rw [hl], ⟨_, rfl⟩, rfl⟩
          · go_wp2
            go_round
            case rel => exact ⟨q - 1, r + Y1, rfl, rfl, Lib.hid (S.next hc (by omega))⟩
            case measure => simp [intOf]; omega
        · obtain ⟨sm1, sm2⟩ := S.small (by omega)
          have ht := S.test.1 hc
          by_cases hr : 4294967296 ≤ r + Y1
          · have hl := (S.last hc hr).symm
            clear S
            go_wp2
            go_meet
            exact ⟨by rw [hl], ⟨_, rfl⟩, rfl⟩
          · go_wp2
            go_round
            case rel => exact ⟨q - 1, r + Y1, rfl, rfl, Lib.hid (S.next hc (by omega))⟩
            case measure => simp [intOf]; omega
      · have hd := (S.done hc).symm
        have ht : q * Y0 ≤ 4294967296 * r + V1 := Int.not_lt.1 fun h => hc (S.test.2 h)
        obtain ⟨sm1, sm2⟩ := S.small (by omega)
        subst hd
        clear S hc
        go_wp2
        go_meet
        exact ⟨rfl, ⟨_, rfl⟩, rfl⟩
  case rest =>
    obtain ⟨rfl, ⟨rx, rfl⟩, rfl⟩ := hcut
    clear HS1 eY eU eV eY1 eY0 eV1 eV0 er1 eq1
    have S0 := HS0.out
    have v0 := S0.v
    have q0b := S0.hq
    have r0b := S0.hr
    have Q0b := S0.range
    clear S0
    go_upto_block 2 with (fail)
    go_cut [18, 16] (fun sq sr wx => sq = .int .u64 Q0 ∧ (∃ r, sr = .int .u64 r) ∧ w = wx)
    case first =>
      go_wp2
      have EQ0 := Lib.hid eq0
      clear eR eq0 er0
      go_loop [18, 16] (fun sq sr => ∃ q r : Int, sq = .int .u64 q ∧ sr = .int .u64 r ∧ Hid (Step R V0 Y Y1 Y0 Q0 q r)) (fun sq _ => (intOf sq).toNat)
      case atStart => exact ⟨q0, r0, by rw [EQ0.out], rfl, HS0⟩
      case round =>
        obtain ⟨q, r, rfl, rfl, hS⟩ := hrel
        clear HS0
        have S := hS.out
        have rb := S.hr
        have qb := S.hq
        by_cases hc : Q0 < q
        · by_cases hb : 4294967296 ≤ q
          · by_cases hr : 4294967296 ≤ r + Y1
            · have hl := (S.last hc hr).symm
              clear S
              go_wp2
              go_meet
              exact ⟨by rw [hl], ⟨_, rfl⟩, rfl⟩
            · go_wp2
              go_round
              case rel => exact ⟨q - 1, r + Y1, rfl, rfl, Lib.hid (S.next hc (by omega))⟩
              case measure => simp [intOf]; omega
          · obtain ⟨sm1, sm2⟩ := S.small (by omega)
            have ht := S.test.1 hc
            by_cases hr : 4294967296 ≤ r + Y1
            · have hl := (S.last hc hr).symm
              clear S
              go_wp2
              go_meet
              exact ⟨by rw [hl], ⟨_, rfl⟩, rfl⟩
            · go_wp2
              go_round
              case rel => exact ⟨q - 1, r + Y1, rfl, rfl, Lib.hid (S.next hc (by omega))⟩
              case measure => simp [intOf]; omega
        · have hd := (S.done hc).symm
          have ht : q * Y0 ≤ 4294967296 * r + V0 := Int.not_lt.1 fun h => hc (S.test.2 h)
          obtain ⟨sm1, sm2⟩ := S.small (by omega)
          subst hd
          clear S hc
          go_wp2
          go_meet
          exact ⟨rfl, ⟨_, rfl⟩, rfl⟩
    case rest =>
      obtain ⟨rfl, ⟨ry, rfl⟩, rfl⟩ := hcut
      go_wp2
      go_ret2
      exact ⟨⟨_, rfl⟩, Drawn0.refl _⟩

/-- How many bits a number takes, said by powers. -/
theorem aux_spec (f : Nat) : ∀ x : Nat, x < 2 ^ f → x ≠ 0 → x < 2 ^ Lib.bitLenAux f x ∧ 2 ^ Lib.bitLenAux f x ≤ 2 * x ∧ Lib.bitLenAux f x ≤ f ∧ 1 ≤ Lib.bitLenAux f x := by
  induction f with
  | zero => intro x h h0; exact absurd h (by simp; omega)
  | succ f ih =>
    intro x h h0
    unfold Lib.bitLenAux
    rw [if_neg h0]
    by_cases h1 : x / 2 = 0
    · have hx : x = 1 := by omega
      have e : Lib.bitLenAux f (x / 2) = 0 := by
        rw [h1]
        cases f <;> simp [Lib.bitLenAux]
      rw [e, hx]
      exact ⟨by decide, by decide, by omega, by omega⟩
    · obtain ⟨a, b, c, d⟩ := ih (x / 2) (by rw [Nat.pow_succ] at h; omega) h1
      rw [Nat.pow_add]
      exact ⟨by omega, by omega, by omega, by omega⟩

theorem shift_spec (y : Int) (h0 : 1 ≤ y) (h1 : y ≤ 18446744073709551615) : ∃ s : Nat, s ≤ 63 ∧ (64 - (Lib.bitLen y.toNat : Int)) = s ∧ 9223372036854775808 ≤ y * 2 ^ s ∧ y * 2 ^ s ≤ 18446744073709551615 := by
  obtain ⟨n, rfl⟩ := Int.eq_ofNat_of_zero_le (a := y) (by omega)
  obtain ⟨a, b, c, d⟩ := aux_spec 64 n (by simp; omega) (by omega)
  unfold Lib.bitLen
  rw [Int.toNat_natCast]
  generalize Lib.bitLenAux 64 n = t at *
  refine ⟨64 - t, by omega, by omega, ?_, ?_⟩
  · have h : 2 ^ 64 ≤ 2 * n * 2 ^ (64 - t) := by
      have := Nat.mul_le_mul_right (2 ^ (64 - t)) b
      rwa [← Nat.pow_add, Nat.add_sub_cancel' c] at this
    have h2 : 2 ^ 63 ≤ n * 2 ^ (64 - t) := by
      rw [Nat.mul_assoc] at h
      omega
    have : ((2 ^ 63 : Nat) : Int) ≤ ((n * 2 ^ (64 - t) : Nat) : Int) := Int.ofNat_le.2 h2
    simpa using this
  · have h : n * 2 ^ (64 - t) < 2 ^ 64 := by
      have := Nat.mul_lt_mul_of_pos_right a (Nat.two_pow_pos (64 - t))
      rwa [← Nat.pow_add, Nat.add_sub_cancel' c] at this
    have h2 : n * 2 ^ (64 - t) ≤ 18446744073709551615 := by omega
    have : ((n * 2 ^ (64 - t) : Nat) : Int) ≤ ((18446744073709551615 : Nat) : Int) := Int.ofNat_le.2 h2
    simpa using this

/-- What is shifted over the edge, and what stays. -/
theorem split_shift (lo : Int) (s : Nat) (hs : s ≤ 63) (h0 : 0 ≤ lo) (h1 : lo ≤ 18446744073709551615) :
    lo * 2 ^ s = lo / 2 ^ (64 - s) * 18446744073709551616 + lo * 2 ^ s % 18446744073709551616 ∧ 0 ≤ lo / 2 ^ (64 - s) ∧ lo / 2 ^ (64 - s) < 2 ^ s := by
  have e : (18446744073709551616 : Int) = 2 ^ (64 - s) * 2 ^ s := by
    rw [← Int.pow_add, Nat.sub_add_cancel (by omega)]
    rfl
  have hp : (0 : Int) < 2 ^ s := Int.pow_pos (by decide)
  have hq : (0 : Int) < 2 ^ (64 - s) := Int.pow_pos (by decide)
  refine ⟨?_, Int.ediv_nonneg h0 (by omega), ?_⟩
  · have := Int.ediv_mul_add_emod (lo * 2 ^ s) 18446744073709551616
    have h2 : lo * 2 ^ s / 18446744073709551616 = lo / 2 ^ (64 - s) := by
      rw [e, Int.mul_ediv_mul_of_pos_left _ _ hp]
    rw [← h2]
    omega
  · rw [Int.ediv_lt_iff_lt_mul hq, Int.mul_comm, ← e]
    omega

theorem join (x : Int) (s : Nat) (c : Int) (h0 : 0 ≤ x * 2 ^ s) (h1 : x * 2 ^ s ≤ 18446744073709551615) (c0 : 0 ≤ c) (c1 : c < 2 ^ s) (hs : s ≤ 63) (hx : 0 ≤ x) : bits .or .u64 (x * 2 ^ s) c = x * 2 ^ s + c := by
  obtain ⟨n, rfl⟩ := Int.eq_ofNat_of_zero_le hx
  obtain ⟨m, rfl⟩ := Int.eq_ofNat_of_zero_le c0
  have hc : m < 2 ^ s := by
    have : (m : Int) < ((2 ^ s : Nat) : Int) := by simpa using c1
    omega
  have hm : m < 18446744073709551616 := Nat.lt_of_lt_of_le hc (Nat.le_trans (Nat.pow_le_pow_right (by decide) hs) (by decide))
  have e : (n : Int) * 2 ^ s = ((n * 2 ^ s : Nat) : Int) := by simp
  rw [e] at h1 ⊢
  rw [u64_or_nat _ _ (by omega) hm, nat_join s _ _ (Nat.mul_mod_left _ _) hc]
  simp

set_option maxRecDepth 100000 in
theorem div64 (hi lo y : Int) (w : World) (hhi : 0 ≤ hi) (hhi' : hi < y) (hlo : 0 ≤ lo) (hlo' : lo ≤ 18446744073709551615) (hy' : y ≤ 18446744073709551615) :
    Calls Try.prog 27 #[.int .u64 hi, .int .u64 lo, .int .u64 y] w fun e w' => Div1 ((hi * 18446744073709551616 + lo) / y) e ∧ Drawn0 w w' := by
  by_cases hz : hi = 0
  · subst hz
    refine (walk_zero lo y w hlo hlo' (by omega) hy').mono ?_
    rintro e w' ⟨rfl, hd⟩
    exact ⟨⟨lo % y, by rw [Int.zero_mul, Int.zero_add]⟩, hd⟩
  · obtain ⟨s, hs, hlz, hY, hY'⟩ := shift_spec y (by omega) hy'
    have hp : (1 : Int) ≤ 2 ^ s := Int.pow_pos (by decide)
    have hH : 0 ≤ hi * 2 ^ s := Int.mul_nonneg hhi (by omega)
    have hHle : (hi + 1) * 2 ^ s ≤ y * 2 ^ s := Int.mul_le_mul_of_nonneg_right (by omega) (by omega)
    rw [Int.add_mul, Int.one_mul] at hHle
    obtain ⟨hl, hc0, hc1⟩ := split_shift lo s hs hlo hlo'
    have hj := join hi s _ hH (by omega) hc0 hc1 hs hhi
    have hw : IntKind.u64.wrap (lo * 2 ^ s) = lo * 2 ^ s % 18446744073709551616 := IntKind.wrap_u64 _
    have hN : (hi * 18446744073709551616 + lo) / y = ((hi * 2 ^ s + lo / 2 ^ (64 - s)) * 18446744073709551616 + lo * 2 ^ s % 18446744073709551616) / (y * 2 ^ s) := by
      have e : (hi * 2 ^ s + lo / 2 ^ (64 - s)) * 18446744073709551616 + lo * 2 ^ s % 18446744073709551616 = (hi * 18446744073709551616 + lo) * 2 ^ s := by
        rw [Int.add_mul, Int.add_mul, Int.mul_right_comm hi 18446744073709551616 (2 ^ s)]
        omega
      rw [e, Int.mul_ediv_mul_of_pos_left _ _ (by omega)]
    rw [hN]
    have hVb : 0 ≤ lo * 2 ^ s % 18446744073709551616 ∧ lo * 2 ^ s % 18446744073709551616 ≤ 18446744073709551615 := by omega
    have hUb : 0 ≤ hi * 2 ^ s + lo / 2 ^ (64 - s) ∧ hi * 2 ^ s + lo / 2 ^ (64 - s) < y * 2 ^ s := by omega
    have hHu : hi * 2 ^ s ≤ 18446744073709551615 := by omega
    obtain ⟨Y, eY⟩ : ∃ Y, y * 2 ^ s = Y := ⟨_, rfl⟩
    obtain ⟨U, eU⟩ : ∃ U, hi * 2 ^ s + lo / 2 ^ (64 - s) = U := ⟨_, rfl⟩
    obtain ⟨V, eV⟩ : ∃ V, lo * 2 ^ s % 18446744073709551616 = V := ⟨_, rfl⟩
    rw [eY] at hY hY' hUb ⊢
    rw [eU] at hj hUb ⊢
    rw [eV] at hw hVb ⊢
    clear hN hl hHle
    have y1 : 2147483648 ≤ Y / 4294967296 ∧ Y / 4294967296 ≤ 4294967295 := by omega
    have y0 : 0 ≤ Y % 4294967296 ∧ Y % 4294967296 ≤ 4294967295 := by omega
    have yy : Y = Y / 4294967296 * 4294967296 + Y % 4294967296 := by omega
    have S1 := Step.first (U := U) (V := V / 4294967296) yy y1 y0 (by omega) hUb
    have hR : 0 ≤ (U * 4294967296 + V / 4294967296) % Y ∧ (U * 4294967296 + V / 4294967296) % Y < Y := ⟨Int.emod_nonneg _ (by omega), Int.emod_lt_of_pos _ (by omega)⟩
    have S0 := Step.first (U := (U * 4294967296 + V / 4294967296) % Y) (V := V % 4294967296) yy y1 y0 (by omega) hR
    have hQR := Int.ediv_mul_add_emod (U * 4294967296 + V / 4294967296) Y
    have fin : (U * 18446744073709551616 + V) / Y = (U * 4294967296 + V / 4294967296) / Y * 4294967296 + ((U * 4294967296 + V / 4294967296) % Y * 4294967296 + V % 4294967296) / Y := by
      have e : U * 18446744073709551616 + V = (U * 4294967296 + V / 4294967296) % Y * 4294967296 + V % 4294967296 + (U * 4294967296 + V / 4294967296) / Y * 4294967296 * Y := by
        rw [Int.mul_right_comm _ 4294967296 Y]
        omega
      rw [e, Int.add_mul_ediv_right _ _ (by omega), Int.add_comm]
    rw [fin]
    have eR : IntKind.u64.wrap (IntKind.u64.wrap (IntKind.u64.wrap (U * 4294967296) + V / 4294967296) - IntKind.u64.wrap ((U * 4294967296 + V / 4294967296) / Y * Y)) = (U * 4294967296 + V / 4294967296) % Y := by
      simp only [IntKind.wrap_u64]
      omega
    have d1 : ∀ U : Int, 0 ≤ U → 0 ≤ U / (Y / 4294967296) * (Y / 4294967296) ∧ U / (Y / 4294967296) * (Y / 4294967296) ≤ U := fun U h =>
      ⟨Int.mul_nonneg (Int.ediv_nonneg h (by omega)) (by omega), Int.ediv_mul_le _ (by omega)⟩
    exact walk_core hi lo y Y U V (Y / 4294967296) (Y % 4294967296) (V / 4294967296) (V % 4294967296) _ _ _ _ _ _ _ s w hs (by omega) hhi' hlo hlo' hy' hH hHu ⟨hY, hY'⟩ (by omega) hVb (by omega)
      eY hj hw rfl (and_low32 _ (by omega) (by omega)) rfl (and_low32 _ (by omega) (by omega)) rfl rfl (d1 _ hUb.1) S1 eR rfl rfl (d1 _ hR.1) S0
      (fun w => (Try.bits_LeadingZeros64 y w (by omega) hy').mono fun e w' ⟨he, hw⟩ => ⟨by rw [he, hlz], hw.symm⟩)

end Go.Proofs.Ytkcngcmeiicpmaa.Div
