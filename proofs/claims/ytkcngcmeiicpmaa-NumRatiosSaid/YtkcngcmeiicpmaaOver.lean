/- The document's division of 128 bits, bit by bit, walked. -/
import Derived.Test.YtkcngcmeiicpmaaArr
namespace Go.Proofs.Ytkcngcmeiicpmaa.Over
open Go.RowKit Go.Proofs.YtkcngcmeiicpmaaW.PrintWords Go.Proofs.YtkcngcmeiicpmaaW.PrintLast Go.Proofs.YtkcngcmeiicpmaaW.PrintMore
open Go.Proofs.Ytkcngcmeiicpmaa.Arr
set_option linter.unusedVariables false

theorem quiet_add {P : Program} {f : FuncId} {args : Array Value} {w : World} {a n : Nat} {v : Value}
    (h : Calls P f args (w.drewN (a + n)) fun e w' => e = .returned v ∧ ∃ m, w' = (w.drewN (a + n)).drewN m) :
    Calls P f args (w.drewN (a + n)) fun e w'' => e = .returned v ∧ ∃ m, w'' = w.drewN (a + m) :=
  h.mono fun _ _ ⟨he, m, hm⟩ => ⟨he, n + m, by rw [hm, World.drewN_drewN, Nat.add_assoc]⟩
theorem quiet_add_same {P : Program} {f : FuncId} {args : Array Value} {w : World} {a n : Nat} {v : Value}
    (h : Calls P f args (w.drewN (a + n)) fun e w' => e = .returned v ∧ w' = w.drewN (a + n)) :
    Calls P f args (w.drewN (a + n)) fun e w'' => e = .returned v ∧ ∃ m, w'' = w.drewN (a + m) :=
  h.mono fun _ _ ⟨he, hm⟩ => ⟨he, n, hm⟩
theorem quiet_add_left {P : Program} {f : FuncId} {args : Array Value} {w : World} {a n : Nat} {v : Value}
    (h : Calls P f args (w.drewN (a + n)) fun e w' => e = .returned v ∧ w.drewN (a + n) = w') :
    Calls P f args (w.drewN (a + n)) fun e w'' => e = .returned v ∧ ∃ m, w'' = w.drewN (a + m) :=
  h.mono fun _ _ ⟨he, hm⟩ => ⟨he, n, hm.symm⟩
theorem quiet_left {P : Program} {f : FuncId} {args : Array Value} {w : World} {n : Nat} {v : Value}
    (h : Calls P f args (w.drewN n) fun e w' => e = .returned v ∧ w.drewN n = w') : Calls P f args (w.drewN n) fun e w'' => e = .returned v ∧ ∃ m, w'' = w.drewN m :=
  h.mono fun _ _ ⟨he, hm⟩ => ⟨he, n, hm.symm⟩

theorem pow_le {k : Nat} (h : k ≤ 31) : (1 : Int) ≤ 2 ^ k ∧ (2 : Int) ^ k ≤ 2147483648 := by
  have h1 : 2 ^ k ≤ 2 ^ 31 := Nat.pow_le_pow_right (by decide) h
  have h2 : 1 ≤ 2 ^ k := Nat.one_le_two_pow
  have e : ((2 ^ k : Nat) : Int) = 2 ^ k := by simp
  rw [← e]
  omega

set_option maxHeartbeats 1000000 in
theorem power_calls (n : Int) (w : World) (h0 : 0 ≤ n) (h1 : n ≤ 31) : Calls Try.prog 30 #[.int .i64 n] w fun e w' => e = .returned (.int .u64 (2 ^ n.toNat)) ∧ w' = w := by
  go_enter Try.func30, Try.ntmps30
  go_wp2
  go_loop [3, 4] (fun o i => ∃ k : Nat, (k : Int) ≤ n ∧ i = .int .i64 k ∧ o = .int .u64 (2 ^ k)) (fun _ i => (n - intOf i).toNat)
  case atStart => exact ⟨0, h0, rfl, rfl⟩
  case round =>
    obtain ⟨k, hk, rfl, rfl⟩ := hrel
    obtain ⟨p0, p1⟩ := pow_le (k := k) (by omega)
    by_cases hlt : (k : Int) < n
    · go_wp2
      go_round
      case rel => exact ⟨k + 1, by omega, by go_num, by rw [Int.pow_succ]⟩
      case measure => simp [intOf]; omega
    · have hn : n.toNat = k := by omega
      have HN := Lib.hid hn
      clear hn
      go_wp2
      go_ret
      exact ⟨by first | rfl | (rw [HN.out]; rfl), rfl⟩

/-- The number of four halves. -/
def num4 (a0 a1 a2 a3 : Int) : Int := a0 + a1 * 4294967296 + a2 * 18446744073709551616 + a3 * 79228162514264337593543950336

/-- What the rounds have come to, k bits being left: the rest and the quotient of what has been gone over. -/
structure Gone (N b : Int) (k : Nat) (rest out : Int) : Prop where
  hb : 1 ≤ b ∧ b ≤ 18446744073709551615
  hN : 0 ≤ N
  hr : rest = N / 2 ^ k % b
  ho : out = N / 2 ^ k / b
  hs : out ≤ 18446744073709551615

theorem Gone.range {N b rest out : Int} {k : Nat} (h : Gone N b k rest out) : 0 ≤ rest ∧ rest < b ∧ 0 ≤ out := by
  have hb := h.hb
  have hp : (0 : Int) < 2 ^ k := Int.pow_pos (by decide)
  rw [h.hr, h.ho]
  exact ⟨Int.emod_nonneg _ (by omega), Int.emod_lt_of_pos _ (by omega), Int.ediv_nonneg (Int.ediv_nonneg h.hN (by omega)) (by omega)⟩

theorem halve (N : Int) (k : Nat) : N / 2 ^ k = N / 2 ^ (k + 1) * 2 + N / 2 ^ k % 2 := by
  have h := Int.ediv_mul_add_emod (N / 2 ^ k) 2
  have e : N / 2 ^ k / 2 = N / 2 ^ (k + 1) := by
    rw [Int.ediv_ediv_of_nonneg (by have : (0 : Int) < 2 ^ k := Int.pow_pos (by decide); omega), Int.pow_succ]
  rw [← e]
  omega

/-- One round: the number before it, behind it. -/
theorem Gone.both {N b rest out : Int} {k : Nat} (h : Gone N b (k + 1) rest out) :
    (rest * 2 + N / 2 ^ k % 2 < b → N / 2 ^ k % b = rest * 2 + N / 2 ^ k % 2 ∧ N / 2 ^ k / b = out * 2) ∧
    (b ≤ rest * 2 + N / 2 ^ k % 2 → N / 2 ^ k % b = rest * 2 + N / 2 ^ k % 2 - b ∧ N / 2 ^ k / b = out * 2 + 1) := by
  have hb := h.hb
  have hr := h.range
  have hv := halve N k
  have e := Int.ediv_mul_add_emod (N / 2 ^ (k + 1)) b
  rw [← h.hr, ← h.ho] at e
  have hbit : 0 ≤ N / 2 ^ k % 2 ∧ N / 2 ^ k % 2 ≤ 1 := by omega
  have e1 : N / 2 ^ k = rest * 2 + N / 2 ^ k % 2 + out * 2 * b := by
    rw [Int.mul_right_comm]
    omega
  have e2 : N / 2 ^ k = rest * 2 + N / 2 ^ k % 2 - b + (out * 2 + 1) * b := by
    rw [Int.add_mul, Int.one_mul]
    omega
  constructor
  · intro hlt
    constructor
    · conv => lhs; rw [e1]
      rw [Int.add_mul_emod_self_right, Int.emod_eq_of_lt (by omega) hlt]
    · conv => lhs; rw [e1]
      rw [Int.add_mul_ediv_right _ _ (by omega), Int.ediv_eq_zero_of_lt (by omega) hlt, Int.zero_add]
  · intro hle
    constructor
    · conv => lhs; rw [e2]
      rw [Int.add_mul_emod_self_right, Int.emod_eq_of_lt (by omega) (by omega)]
    · conv => lhs; rw [e2]
      rw [Int.add_mul_ediv_right _ _ (by omega), Int.ediv_eq_zero_of_lt (by omega) (by omega), Int.zero_add]

theorem Gone.under {N b rest out : Int} {k : Nat} (h : Gone N b (k + 1) rest out) (ho : out < 9223372036854775808) (hlt : rest * 2 + N / 2 ^ k % 2 < b) : Gone N b k (rest * 2 + N / 2 ^ k % 2) (out * 2) :=
  have e := h.both.1 hlt
  ⟨h.hb, h.hN, e.1.symm, e.2.symm, by omega⟩

theorem Gone.above {N b rest out : Int} {k : Nat} (h : Gone N b (k + 1) rest out) (ho : out < 9223372036854775808) (hle : b ≤ rest * 2 + N / 2 ^ k % 2) : Gone N b k (rest * 2 + N / 2 ^ k % 2 - b) (out * 2 + 1) :=
  have e := h.both.2 hle
  ⟨h.hb, h.hN, e.1.symm, e.2.symm, by omega⟩

/-- No room: the quotient is too great. -/
theorem Gone.far {N b rest out : Int} {k : Nat} (h : Gone N b (k + 1) rest out) (ho : 9223372036854775808 ≤ out) : 18446744073709551616 ≤ N / b := by
  have hb := h.hb
  have h1 : out * 2 ≤ N / 2 ^ k / b := by
    rcases Int.lt_or_le (rest * 2 + N / 2 ^ k % 2) b with hlt | hle
    · rw [(h.both.1 hlt).2]; omega
    · rw [(h.both.2 hle).2]; omega
  have hp : (1 : Int) ≤ 2 ^ k := Int.pow_pos (by decide)
  have h2 : N / 2 ^ k / b ≤ N / b := Int.ediv_le_ediv (by omega) (Int.ediv_le_self _ h.hN)
  omega

theorem Gone.begin {N b : Int} (hb : 1 ≤ b ∧ b ≤ 18446744073709551615) (h0 : 0 ≤ N) (h1 : N < 340282366920938463463374607431768211456) : Gone N b 128 0 0 := by
  have e : N / 2 ^ 128 = 0 := Int.ediv_eq_zero_of_lt h0 h1
  exact ⟨hb, h0, by rw [e]; simp, by rw [e]; simp, by decide⟩

theorem Gone.fin {N b rest out : Int} (h : Gone N b 0 rest out) : out = N / b ∧ N / b ≤ 18446744073709551615 := by
  have e := h.ho
  have hs := h.hs
  rw [Int.pow_zero, Int.ediv_one] at e
  exact ⟨e, by omega⟩

theorem pow_split (k : Nat) : (2 : Int) ^ k = 2 ^ (32 * (k / 32)) * 2 ^ (k % 32) := by
  rw [← Int.pow_add, Nat.div_add_mod]

/-- The bit at a place, by the halves. -/
theorem bit_at {a0 a1 a2 a3 : Int} (h0 : 0 ≤ a0 ∧ a0 ≤ 4294967295) (h1 : 0 ≤ a1 ∧ a1 ≤ 4294967295) (h2 : 0 ≤ a2 ∧ a2 ≤ 4294967295) (h3 : 0 ≤ a3 ∧ a3 ≤ 4294967295) {k : Nat} (hk : k < 128) :
    ∃ d : Int, #[Value.int .u64 a0, .int .u64 a1, .int .u64 a2, .int .u64 a3][k / 32]? = some (.int .u64 d) ∧ 0 ≤ d ∧ d ≤ 4294967295 ∧ d / 2 ^ (k % 32) % 2 = num4 a0 a1 a2 a3 / 2 ^ k % 2 := by
  have key : ∀ d hi lo : Int, 0 ≤ d → d ≤ 4294967295 → 0 ≤ lo → ∀ j : Nat, lo < 2 ^ (32 * j) → k / 32 = j → num4 a0 a1 a2 a3 = hi * 4294967296 * 2 ^ (32 * j) + d * 2 ^ (32 * j) + lo → d / 2 ^ (k % 32) % 2 = num4 a0 a1 a2 a3 / 2 ^ k % 2 := by
    intro d hi lo d0 d1 l0 j lj hj e
    have hp : (0 : Int) < 2 ^ (32 * j) := Int.pow_pos (by decide)
    rw [pow_split k, hj, ← Int.ediv_ediv_of_nonneg (by omega), e, show hi * 4294967296 * 2 ^ (32 * j) + d * 2 ^ (32 * j) + lo = lo + (hi * 4294967296 + d) * 2 ^ (32 * j) from by rw [Int.add_mul]; omega,
      Int.add_mul_ediv_right _ _ (by omega), Int.ediv_eq_zero_of_lt l0 lj, Int.zero_add]
    have hq : k % 32 ≤ 31 := by omega
    have e2 : (4294967296 : Int) = 2 * 2 ^ (31 - k % 32) * 2 ^ (k % 32) := by
      rw [Int.mul_assoc, ← Int.pow_add, Nat.sub_add_cancel hq]
      rfl
    have hq0 : (0 : Int) < 2 ^ (k % 32) := Int.pow_pos (by decide)
    rw [e2, ← Int.mul_assoc, Int.add_comm, Int.add_mul_ediv_right _ _ (by omega), show hi * (2 * 2 ^ (31 - k % 32)) = hi * 2 ^ (31 - k % 32) * 2 from by rw [Int.mul_comm 2, Int.mul_assoc]]
    omega
  have hk4 : k / 32 = 0 ∨ k / 32 = 1 ∨ k / 32 = 2 ∨ k / 32 = 3 := by omega
  unfold num4 at *
  rcases hk4 with h | h | h | h
  · rw [h]
    exact ⟨a0, rfl, h0.1, h0.2, key a0 (a1 + a2 * 4294967296 + a3 * 18446744073709551616) 0 h0.1 h0.2 (by omega) 0 (by decide) h (by simp; omega)⟩
  · rw [h]
    exact ⟨a1, rfl, h1.1, h1.2, key a1 (a2 + a3 * 4294967296) a0 h1.1 h1.2 h0.1 1 (by simp; omega) h (by simp; omega)⟩
  · rw [h]
    exact ⟨a2, rfl, h2.1, h2.2, key a2 a3 (a0 + a1 * 4294967296) h2.1 h2.2 (by omega) 2 (by simp; omega) h (by simp; omega)⟩
  · rw [h]
    exact ⟨a3, rfl, h3.1, h3.2, key a3 0 (a0 + a1 * 4294967296 + a2 * 18446744073709551616) h3.1 h3.2 (by omega) 3 (by simp; omega) h (by simp; omega)⟩

/-- What is returned: the quotient, or that there is no room. -/
def OverSaid (N b : Int) (e : Ending) : Prop :=
  (N / b ≤ 18446744073709551615 ∧ e = .returned (.tuple #[.int .u64 (N / b), .bool true])) ∨ (18446744073709551616 ≤ N / b ∧ e = .returned (.tuple #[.int .u64 0, .bool false]))

set_option maxHeartbeats 4000000 in
set_option maxRecDepth 100000 in
theorem over_calls (a0 a1 a2 a3 b : Int) (w : World) (h0 : 0 ≤ a0 ∧ a0 ≤ 4294967295) (h1 : 0 ≤ a1 ∧ a1 ≤ 4294967295) (h2 : 0 ≤ a2 ∧ a2 ≤ 4294967295) (h3 : 0 ≤ a3 ∧ a3 ≤ 4294967295) (hb : 1 ≤ b ∧ b ≤ 18446744073709551615) :
    Calls Try.prog 28 #[.agg #[.int .u64 a0, .int .u64 a1, .int .u64 a2, .int .u64 a3], .int .u64 b] w fun e w' => OverSaid (num4 a0 a1 a2 a3) b e ∧ Below w.heap.size w w' := by
  have hB : Gone (num4 a0 a1 a2 a3) b 128 0 0 := Gone.begin hb (by unfold num4; omega) (by unfold num4; omega)
  have hat := fun (k : Nat) (hk : k < 128) => bit_at h0 h1 h2 h3 hk
  obtain ⟨N, hN⟩ : ∃ N, num4 a0 a1 a2 a3 = N := ⟨_, rfl⟩
  rw [hN] at hB ⊢
  simp only [hN] at hat
  have HB := Lib.hid hB
  have HAT := Lib.hid hat
  clear hB hat hN h0 h1 h2 h3
  go_enter Try.func28, Try.ntmps28
  go_wp2
  go_loopw [6, 7, 8] (fun r o i wr => ∃ (k : Nat) (rest out : Int), k ≤ 128 ∧ i = .int .i64 ((k : Int) - 1) ∧ r = .int .u64 rest ∧ o = .int .u64 out ∧ Hid (Gone N b k rest out) ∧ ∃ nd, wr = (w.alloc (.cells #[.int .u64 a0, .int .u64 a1, .int .u64 a2, .int .u64 a3] 43)).drewN nd) (fun _ _ i _ => (intOf i + 1).toNat)
  case atStart => exact ⟨128, 0, 0, by omega, rfl, rfl, rfl, HB, 0, rfl⟩
  case round =>
    obtain ⟨k, rest, out, hk, rfl, rfl, rfl, hG, nd, rfl⟩ := hrel
    clear HB
    cases k with
    | zero =>
      obtain ⟨rfl, hf⟩ := hG.out.fin
      have HF := Lib.hid hf
      clear hf
      go_wp2
      go_ret2
      exact ⟨.inl ⟨HF.out, rfl⟩, below_drewN ((Below.refl _ w).alloc (Nat.le_refl _) _) _⟩
    | succ k =>
      rw [show ((k + 1 : Nat) : Int) - 1 = (k : Int) from by omega]
      have G := hG.out
      obtain ⟨g1, g2, g3⟩ := G.range
      obtain ⟨d, hd, d0, d1, eB⟩ := HAT.out k (by omega)
      obtain ⟨t, ht⟩ : ∃ t, t = N / 2 ^ k % 2 := ⟨_, rfl⟩
      have hbit : 0 ≤ t ∧ t ≤ 1 := by omega
      rw [← ht] at eB
      have e2 : (d / 2 ^ (k % 32)).tmod 2 = t := by
        rw [Int.tmod_eq_emod_of_nonneg (Int.ediv_nonneg d0 (by have : (0 : Int) < 2 ^ (k % 32) := Int.pow_pos (by decide); omega))]
        exact eB
      have hfar : 9223372036854775808 ≤ out → 18446744073709551616 ≤ N / b := fun h => G.far h
      have hunder : out < 9223372036854775808 → rest * 2 + t < b → Gone N b k (rest * 2 + t) (out * 2) := by rw [ht]; exact fun h1 h2 => G.under h1 h2
      have habove : out < 9223372036854775808 → b ≤ rest * 2 + t → Gone N b k (rest * 2 + t - b) (out * 2 + 1) := by rw [ht]; exact fun h1 h2 => G.above h1 h2
      have HU := Lib.hid hunder
      have HA := Lib.hid habove
      have HFar := Lib.hid hfar
      clear hunder habove hfar ht G hG eB
      obtain ⟨p0, p1⟩ := pow_le (k := k % 32) (by omega)
      have hpw := fun w => power_calls ((k : Int) % 32) w (by omega) (by omega)
      rw [show ((k : Int) % 32).toNat = k % 32 from by omega] at hpw
      have HPW := Lib.hid hpw
      clear hpw
      have hc0 : (w.alloc (.cells #[.int .u64 a0, .int .u64 a1, .int .u64 a2, .int .u64 a3] 43)).cell? ⟨w.heap.size, k / 32, none⟩ = some (.int .u64 d) := ((Blk.new w 43 _).cell (k / 32)).trans hd
      have hd2 : [Value.int .u64 a0, .int .u64 a1, .int .u64 a2, .int .u64 a3][k / 32]? = some (.int .u64 d) := by simpa using hd
      clear HAT
      have t1 : (k : Int).tdiv 32 = (k : Int) / 32 := Int.tdiv_eq_ediv_of_nonneg (by omega)
      have t2 : (k : Int).tmod 32 = (k : Int) % 32 := Int.tmod_eq_emod_of_nonneg (by omega)
      have t3 : IntKind.i64.wrap ((k : Int) / 32) = (k : Int) / 32 := by rw [IntKind.wrap_i64]; omega
      have t4 : IntKind.i64.wrap ((k : Int) % 32) = (k : Int) % 32 := by rw [IntKind.wrap_i64]; omega
      have t5 : ((k : Int) / 32).toNat = k / 32 := by omega
      have t6 : 0 ≤ (k : Int) / 32 := by omega
      have t7 : (k : Int) / 32 < 4 := by omega
      by_cases hlt : out < 9223372036854775808
      · by_cases hhigh : 9223372036854775808 ≤ rest
        · have hge : b ≤ rest * 2 + t := by omega
          go_wp2_with fail
          go_quiet ((go_at_call 30; exact quiet_add_same (HPW.out _)))
          go_wp2_with fail
          go_roundw
          case rel => exact ⟨k, rest * 2 + t - b, out * 2 + 1, by omega, rfl, by first | rfl | (congr 1; done) | (congr 1; simp only [IntKind.wrap_u64]; omega), rfl, Lib.hid (HA.out hlt hge), _, rfl⟩
          case measure => simp [intOf]
        · by_cases hge : b ≤ rest * 2 + t
          · have hwr : rest * 2 + t < 18446744073709551616 := by omega
            go_wp2_with fail
            go_quiet ((go_at_call 30; exact quiet_add_same (HPW.out _)))
            go_wp2_with fail
            go_roundw
            case rel => exact ⟨k, rest * 2 + t - b, out * 2 + 1, by omega, rfl, by first | rfl | (congr 1; done) | (congr 1; simp only [IntKind.wrap_u64]; omega), rfl, Lib.hid (HA.out hlt hge), _, rfl⟩
            case measure => simp [intOf]
          · replace hge : rest * 2 + t < b := by omega
            go_wp2_with fail
            go_quiet ((go_at_call 30; exact quiet_add_same (HPW.out _)))
            go_wp2_with fail
            go_roundw
            case rel => exact ⟨k, rest * 2 + t, out * 2, by omega, rfl, by first | rfl | (congr 1; done) | (congr 1; simp only [IntKind.wrap_u64]; omega), rfl, Lib.hid (HU.out hlt hge), _, rfl⟩
            case measure => simp [intOf]
      · have hf := HFar.out (by omega)
        have HF := Lib.hid hf
        clear hf
        go_wp2_with fail
        go_quiet ((go_at_call 30; exact quiet_add_same (HPW.out _)))
        go_wp2_with fail
        go_ret2
        exact ⟨.inr ⟨HF.out, rfl⟩, below_drewN ((Below.refl _ w).alloc (Nat.le_refl _) _) _⟩

end Go.Proofs.Ytkcngcmeiicpmaa.Over
