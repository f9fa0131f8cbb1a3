/- Numbers as bytes, and read again: what the printed loops come to, by PlainV's words. -/
import Derived.Test.YtbeefbhoccdicaaWireNum
namespace Go.Proofs.Ytbeefbhoccdicaa.WireRead
open Go.RowKit Go.Proofs.YtbeefbhoccdicaaW.PrintWords Go.Proofs.YtbeefbhoccdicaaW.PrintLast Go.Proofs.YtbeefbhoccdicaaW.PrintMore Go.Proofs.Ytbeefbhoccdicaa.QGraphReads Go.Proofs.Ytbeefbhoccdicaa.PlainV Go.Proofs.Ytbeefbhoccdicaa.WireNum

def ints (l : List Nat) : List Int := l.map fun n : Nat => (n : Int)
theorem ints_cons (a : Nat) (l : List Nat) : ints (a :: l) = (a : Int) :: ints l := rfl
theorem ints_length (l : List Nat) : (ints l).length = l.length := by simp [ints]

theorem str_append (a b : List Int) : strOfNums (a ++ b) = strOfNums a ++ strOfNums b := by
  apply ByteArray.ext
  simp [strOfNums]

theorem or128 : ∀ x : Fin 256, x.val ||| 128 = x.val % 128 + 128 := by decide +kernel
theorem and127 : ∀ x : Fin 256, x.val &&& 127 = x.val % 128 := by decide +kernel
theorem and128 : ∀ x : Fin 256, (x.val &&& 128 = 0) = (x.val < 128) := by decide +kernel

theorem or_u8 {x : Nat} (h : x < 256) : Go.bits .or .u8 (x : Int) 128 = ((x % 128 + 128 : Nat) : Int) := by
  rw [show (128 : Int) = ((128 : Nat) : Int) from rfl, u8_or_nat _ _ h (by omega), or128 ⟨x, h⟩]
theorem and_u8 {x : Nat} (h : x < 256) : Go.bits .and .u8 (x : Int) 127 = ((x % 128 : Nat) : Int) := by
  rw [show (127 : Int) = ((127 : Nat) : Int) from rfl, u8_and_nat _ _ h (by omega), and127 ⟨x, h⟩]
theorem high_u8 {x : Nat} (h : x < 256) : (Go.bits .and .u8 (x : Int) 128 = 0) ↔ x < 128 := by
  rw [show (128 : Int) = ((128 : Nat) : Int) from rfl, u8_and_nat _ _ h (by omega)]
  have := and128 ⟨x, h⟩
  simp only at this
  constructor
  · intro hh
    rw [← this]
    omega
  · intro hh
    rw [← this] at hh
    omega

theorem wire_number_l0 (f : Nat) : ∀ (k n : Nat) (acc : List Int), n < 2 ^ (7 * f + 1) → acc.length + f + 1 < 140737488355328 → f < k → wire_Number.l0 k (n : Int) acc = some (strOfNums (acc ++ ints (vb (f + 1) n))) := by
  induction f with
  | zero =>
    intro k n acc hn hl hk
    obtain ⟨k, rfl⟩ : ∃ m, k = m + 1 := ⟨k - 1, by omega⟩
    have h2 : n < 2 := by simpa using hn
    simp only [wire_Number.l0, vb]
    rw [if_neg (by omega), if_pos (by omega), if_pos (by omega)]
    have : (n : Int) % 256 = n := by omega
    rw [this]
    rfl
  | succ f ih =>
    intro k n acc hn hl hk
    obtain ⟨k, rfl⟩ : ∃ m, k = m + 1 := ⟨k - 1, by omega⟩
    rw [wire_Number.l0, vb]
    by_cases h : n < 128
    · rw [if_neg (by omega), if_pos (by omega), if_pos h]
      have : (n : Int) % 256 = n := by omega
      rw [this]
      rfl
    · rw [if_pos (by omega), if_pos (by omega), if_neg h]
      have e1 : (n : Int) / 128 = ((n / 128 : Nat) : Int) := by simp
      have e2 : (n : Int) % 256 = ((n % 256 : Nat) : Int) := by simp
      have e3 : n % 256 % 128 = n % 128 := by omega
      rw [e1, e2, or_u8 (by omega), e3, ih k (n / 128) _ (by
        have e : 2 ^ (7 * (f + 1) + 1) = 2 ^ (7 * f + 1) * 128 := by rw [show 7 * (f + 1) + 1 = 7 * f + 1 + 7 from by omega, Nat.pow_add]
        rw [e] at hn
        exact Nat.div_lt_of_lt_mul (by omega)) (by simp; omega) (by omega), ints_cons, List.append_assoc]
      rfl

/-- A number's bytes. -/
def numStr (n : Nat) : ByteArray := strOfNums (ints (vb 10 n))

theorem numStr_size (n : Nat) : (numStr n).size ≤ 10 := by
  unfold numStr
  rw [strOfNums_size, ints_length]
  exact vb_length 10 n

theorem wire_number {n : Int} (h : Un n) : wire_Number.f 10 n = some (numStr n.toNat) := by
  unfold Un at h
  obtain ⟨m, rfl⟩ := Int.eq_ofNat_of_zero_le h.1
  unfold wire_Number.f numStr
  rw [wire_number_l0 9 10 m [] (Nat.lt_of_lt_of_le (show m < 18446744073709551616 by omega) (by decide)) (by simp) (by omega)]
  simp

theorem ref_number_f (f : Nat) : ∀ (k n : Nat), n < 2 ^ (7 * f + 1) → f ≤ 9 → f < k → cohortref01_Number.f k (n : Int) = some (strOfNums (ints (vb (f + 1) n))) := by
  induction f with
  | zero =>
    intro k n hn hl hk
    obtain ⟨k, rfl⟩ : ∃ m, k = m + 1 := ⟨k - 1, by omega⟩
    have h2 : n < 2 := by simpa using hn
    simp only [cohortref01_Number.f, vb]
    rw [if_pos (by omega), if_pos (by omega)]
    have : (n : Int) % 256 = n := by omega
    rw [this]
    rfl
  | succ f ih =>
    intro k n hn hl hk
    obtain ⟨k, rfl⟩ : ∃ m, k = m + 1 := ⟨k - 1, by omega⟩
    rw [cohortref01_Number.f, vb]
    by_cases h : n < 128
    · rw [if_pos (by omega), if_pos h]
      have : (n : Int) % 256 = n := by omega
      rw [this]
      rfl
    · have hp : 2 ^ (7 * (f + 1) + 1) ≤ 2 ^ 64 := Nat.pow_le_pow_right (by decide) (by omega)
      have e : 2 ^ (7 * (f + 1) + 1) = 2 ^ (7 * f + 1) * 128 := by rw [show 7 * (f + 1) + 1 = 7 * f + 1 + 7 from by omega, Nat.pow_add]
      have e1 : IntKind.u64.wrap (Int.tdiv (n : Int) 128) = ((n / 128 : Nat) : Int) := by
        rw [Int.tdiv_eq_ediv_of_nonneg (by omega), IntKind.wrap_u64]
        omega
      have e2 : (Int.tmod (n : Int) 128 % 256 + 128) % 256 = ((n % 128 + 128 : Nat) : Int) := by
        rw [Int.tmod_eq_emod_of_nonneg (by omega)]
        omega
      rw [if_neg (by omega), if_neg h, e1, e2, ih k (n / 128) (by rw [e] at hn; exact Nat.div_lt_of_lt_mul (by omega)) (by omega) (by omega)]
      simp only [Option.bind_some]
      have hv := vb_length (f + 1) (n / 128)
      rw [if_pos, ints_cons, ← str_append]
      · rfl
      · rw [strOfNums_size, strOfNums_size, ints_length]
        simp
        omega

theorem ref_number {n : Int} (h : Un n) : cohortref01_Number.f 10 n = some (numStr n.toNat) := by
  unfold Un at h
  obtain ⟨m, rfl⟩ := Int.eq_ofNat_of_zero_le h.1
  unfold numStr
  rw [ref_number_f 9 10 m (Nat.lt_of_lt_of_le (show m < 18446744073709551616 by omega) (by decide)) (by omega) (by omega)]
  simp

/-- A signed number's bytes. -/
def sgnStr (z : Int) : ByteArray := numStr (foldZ z).toNat

theorem ref_signed {z : Int} (h : In z) : cohortref01_Signed.f 10 z = some (sgnStr z) := by
  unfold cohortref01_Signed.f
  rw [ref_fold h]
  simp only [Option.bind_some]
  rw [ref_number (fold_un h)]
  rfl

/-! ### reading -/

/-- A string's bytes as numbers. -/
def bs (s : ByteArray) : List Nat := s.data.toList.map fun b => b.toNat
theorem bs_length (s : ByteArray) : (bs s).length = s.size := by rw [bs, List.length_map, data_length]
theorem bs_byte (s : ByteArray) : ∀ b ∈ bs s, b < 256 := by
  intro b hb
  obtain ⟨u, _, rfl⟩ := List.mem_map.1 hb
  exact u.toNat_lt
theorem bt_bs (s : ByteArray) (i : Nat) (h : i < s.size) : bt s (i : Int) = (((bs s)[i]'(by rw [bs_length]; exact h) : Nat) : Int) := by
  unfold bt
  simp [h, bs]
  rfl


theorem drop_bs (s : ByteArray) (i : Nat) (h : i < s.size) : (bs s).drop i = ((bs s)[i]'(by rw [bs_length]; exact h)) :: (bs s).drop (i + 1) := List.drop_eq_getElem_cons (by rw [bs_length]; exact h)

theorem join_or {acc x i : Nat} (ha : acc < 2 ^ i) (hx : x * 2 ^ i < 18446744073709551616) (hi : i ≤ 63) : Go.bits .or .u64 (acc : Int) ((x * 2 ^ i : Nat) : Int) = ((acc + x * 2 ^ i : Nat) : Int) := by
  have hp : 2 ^ i ≤ 2 ^ 63 := Nat.pow_le_pow_right (by decide) hi
  rw [u64_or_nat _ _ (by omega) hx, Nat.or_comm, nat_join i _ _ (Nat.mul_mod_left _ _) ha, Nat.add_comm]

theorem shl_in {x i : Nat} (hx : x * 2 ^ i < 18446744073709551616) (hi : i ≤ 63) : shl .u64 (x : Int) (i : Int) = ((x * 2 ^ i : Nat) : Int) := by
  unfold shl
  rw [Int.toNat_natCast, show min i IntKind.u64.bits = i from by simp [IntKind.bits]; omega, IntKind.wrap_u64]
  have e : (x : Int) * 2 ^ i = ((x * 2 ^ i : Nat) : Int) := by simp
  rw [e]
  omega

/-- What the program's reader answers, by PlainV's words. -/
def gotW (s : ByteArray) (at_ err acc i : Nat) : Got → Int × ByteArray × Int × Int
  | .err e => (0, s, at_, e)
  | .ok v l => (((acc + 2 ^ (7 * i) * v : Nat) : Int), s, ((at_ + i + l : Nat) : Int), err)

theorem pow7 (i : Nat) : 2 ^ (7 * (i + 1)) = 2 ^ (7 * i) * 128 := by rw [show 7 * (i + 1) = 7 * i + 7 from by omega, Nat.pow_add]

theorem wire_j1_bad {k : Nat} {x4 x5 x9 x51 x1001 x1002 : Int} {s : ByteArray} : wire_Reader_Number.j1 (k + 1) x4 x5 x9 x51 true s x1001 x1002 = some (0, s, x1001, 6) := by
  rw [wire_Reader_Number.j1]
  exact if_pos rfl

theorem part_in {b i : Nat} (hi : i ≤ 9) (h : i = 9 → b ≤ 1) : b % 128 * 2 ^ (7 * i) < 18446744073709551616 := by
  by_cases h9 : i = 9
  · have h1 := h h9
    subst h9
    have : b % 128 * 2 ^ (7 * 9) ≤ 1 * 2 ^ (7 * 9) := Nat.mul_le_mul_right _ (by omega)
    omega
  · have hp : 2 ^ (7 * i) ≤ 2 ^ 56 := Nat.pow_le_pow_right (by decide) (by omega)
    have : b % 128 * 2 ^ (7 * i) ≤ 127 * 2 ^ 56 := Nat.mul_le_mul (by omega) hp
    omega

theorem wire_sum {acc i b : Nat} (ha : acc < 2 ^ (7 * i)) (hb : b < 256) (hi : i ≤ 9) (h : i = 9 → b ≤ 1) :
    Go.bits .or .u64 (acc : Int) (shl .u64 (IntKind.u64.wrap (Go.bits .and .u8 (b : Int) 127)) (wrap64 (7 * (i : Int)))) = ((acc + b % 128 * 2 ^ (7 * i) : Nat) : Int) := by
  have hx := part_in hi h
  have eand : IntKind.u64.wrap (Go.bits .and .u8 (b : Int) 127) = ((b % 128 : Nat) : Int) := by rw [and_u8 hb, IntKind.wrap_u64]; omega
  have e7 : wrap64 (7 * (i : Int)) = ((7 * i : Nat) : Int) := by rw [wrap_in (by unfold In; omega)]; omega
  rw [eand, e7, shl_in hx (by omega), join_or ha hx (by omega)]

theorem wire_j1_low {k acc i b at_ : Nat} {x err : Int} {s : ByteArray} (ha : acc < 2 ^ (7 * i)) (hb : b < 128) (hi : i ≤ 9) (h : i = 9 → b ≤ 1) (h1 : at_ ≤ 4611686018427387904) :
    wire_Reader_Number.j1 (k + 1) acc i b x false s at_ err = some (((acc + b * 2 ^ (7 * i) : Nat) : Int), s, ((at_ + i + 1 : Nat) : Int), err) := by
  have e7 : (0 : Int) ≤ wrap64 (7 * (i : Int)) := by rw [wrap_in (by unfold In; omega)]; omega
  have e1 : wrap64 ((at_ : Int) + wrap64 ((i : Int) + 1)) = ((at_ + i + 1 : Nat) : Int) := by
    rw [wrap_in (a := (i : Int) + 1) (by unfold In; omega), wrap_in (by unfold In; omega)]
    omega
  have ew := wire_sum ha (show b < 256 by omega) hi h
  rw [Nat.mod_eq_of_lt hb] at ew
  rw [wire_Reader_Number.j1]
  refine (if_neg (by decide)).trans ?_
  rw [if_pos e7, if_pos ((high_u8 (by omega)).2 hb), ew, e1]

theorem wire_j1_high {k acc i b : Nat} {at_ err : Int} {s : ByteArray} (ha : acc < 2 ^ (7 * i)) (hb : b < 256) (hb1 : 128 ≤ b) (hi : i ≤ 8) :
    wire_Reader_Number.j1 (k + 1) acc i b i false s at_ err = wire_Reader_Number.l0 k ((acc + b % 128 * 2 ^ (7 * i) : Nat) : Int) ((i + 1 : Nat) : Int) s at_ err := by
  have e7 : (0 : Int) ≤ wrap64 (7 * (i : Int)) := by rw [wrap_in (by unfold In; omega)]; omega
  have e8 : wrap64 ((i : Int) + 1) = ((i + 1 : Nat) : Int) := by rw [wrap_in (by unfold In; omega)]; omega
  rw [wire_Reader_Number.j1]
  refine (if_neg (by decide)).trans ?_
  rw [if_pos e7, if_neg (fun h => by have := (high_u8 hb).1 h; omega), wire_sum ha hb (by omega) (by omega), e8]

theorem acc_next {acc i b : Nat} (ha : acc < 2 ^ (7 * i)) : acc + b % 128 * 2 ^ (7 * i) < 2 ^ (7 * (i + 1)) := by
  rw [pow7]
  have : b % 128 * 2 ^ (7 * i) ≤ 127 * 2 ^ (7 * i) := Nat.mul_le_mul_right _ (by omega)
  omega

/-- One byte more. -/
theorem gotW_step {s : ByteArray} {at_ err acc i b : Nat} (hb : 128 ≤ b) (hb2 : b < 256) (g : Got) :
    gotW s at_ err (acc + b % 128 * 2 ^ (7 * i)) (i + 1) g = gotW s at_ err acc i (more b g) := by
  cases g with
  | err e => rfl
  | ok v l =>
    simp only [gotW, more]
    have e1 : b % 128 = b - 128 := by omega
    rw [pow7, e1]
    have e2 : 2 ^ (7 * i) * 128 * v = 2 ^ (7 * i) * (128 * v) := Nat.mul_assoc _ _ _
    have e3 : 2 ^ (7 * i) * (b - 128 + 128 * v) = 2 ^ (7 * i) * (b - 128) + 2 ^ (7 * i) * (128 * v) := Nat.mul_add _ _ _
    rw [e2, e3, Nat.mul_comm (b - 128)]
    generalize 2 ^ (7 * i) * (b - 128) = X
    generalize 2 ^ (7 * i) * (128 * v) = Y
    rw [show acc + X + Y = acc + (X + Y) from by omega, show at_ + (i + 1) + l = at_ + i + (l + 1) from by omega]

theorem wire_l0 (f : Nat) : ∀ (k i acc at_ err : Nat) (s : ByteArray), i + f = 10 → acc < 2 ^ (7 * i) → at_ ≤ s.size → s.size ≤ 4611686018427387904 → 2 * f < k →
    wire_Reader_Number.l0 k acc i s at_ err = some (gotW s at_ err acc i (rdv f (decide (i = 0)) ((bs s).drop (at_ + i)))) := by
  induction f with
  | zero =>
    intro k i acc at_ err s hi ha h1 h2 hk
    obtain ⟨k, rfl⟩ : ∃ m, k = m + 1 := ⟨k - 1, by omega⟩
    rw [wire_Reader_Number.l0, if_neg (by omega)]
    rfl
  | succ f ih =>
    intro k i acc at_ err s hi ha h1 h2 hk
    obtain ⟨k, rfl⟩ : ∃ m, k = m + 2 := ⟨k - 2, by omega⟩
    have ew : wrap64 ((at_ : Int) + (i : Int)) = ((at_ + i : Nat) : Int) := by rw [wrap_in (by unfold In; omega)]; omega
    rw [wire_Reader_Number.l0, if_pos (by omega), ew]
    by_cases hend : s.size ≤ at_ + i
    · rw [if_pos (by omega), List.drop_eq_nil_of_le (by rw [bs_length]; exact hend)]
      rfl
    · have hlt : at_ + i < s.size := by omega
      have hb := bt_bs s (at_ + i) hlt
      have hb256 := bs_byte s _ (List.getElem_mem (l := bs s) (n := at_ + i) (by rw [bs_length]; exact hlt))
      rw [if_neg (by omega), if_pos (by omega), if_pos (by omega), hb, drop_bs s _ hlt]
      generalize (bs s)[at_ + i]'(by rw [bs_length]; exact hlt) = b at hb256
      rw [rdv]
      by_cases hbad : (f = 0 ∧ b > 1) ∨ (b = 0 ∧ decide (i = 0) = false)
      · rw [if_pos hbad]
        rcases hbad with ⟨h9, h1⟩ | ⟨h0, hi0⟩
        · rw [if_pos (by omega), if_pos (by omega), wire_j1_bad]
          rfl
        · have hi1 := of_decide_eq_false hi0
          have hd : decide ((i : Int) > 0) = true := decide_eq_true (by omega)
          by_cases h9 : i = 9
          · rw [if_pos (by omega), if_neg (by omega), if_pos (by omega), hd, wire_j1_bad]
            rfl
          · rw [if_neg (by omega), if_pos (by omega), hd, wire_j1_bad]
            rfl
      · rw [if_neg hbad]
        have h9 : i = 9 → b ≤ 1 := fun e => by
          have := fun h => hbad (.inl ⟨by omega, h⟩)
          omega
        have hz : b = 0 → i = 0 := fun e => by
          refine Classical.byContradiction fun h => hbad (.inr ⟨e, decide_eq_false h⟩)
        have hj : wire_Reader_Number.j1 (k + 1) acc i b i false s at_ err = some (gotW s at_ err acc i (if b < 128 then Got.ok b 1 else more b (rdv f false (List.drop (at_ + i + 1) (bs s))))) := by
          by_cases hb1 : b < 128
          · rw [if_pos hb1, wire_j1_low ha hb1 (by omega) h9 (by omega)]
            simp only [gotW]
            rw [Nat.mul_comm (2 ^ (7 * i))]
          · rw [if_neg hb1, wire_j1_high ha hb256 (by omega) (by omega), ih k (i + 1) _ at_ err s (by omega) (acc_next ha) h1 h2 (by omega), gotW_step (by omega) hb256,
              decide_eq_false (show ¬ i + 1 = 0 by omega), show at_ + (i + 1) = at_ + i + 1 from by omega]
        by_cases h9' : i = 9
        · have := h9 h9'
          rw [if_pos (by omega), if_neg (by omega)]
          by_cases h0 : b = 0
          · have := hz h0
            omega
          · rw [if_neg (by omega), hj]
        · rw [if_neg (by omega)]
          by_cases h0 : b = 0
          · have hi0 := hz h0
            rw [if_pos (by omega), decide_eq_false (show ¬ (i : Int) > 0 by omega), hj]
          · rw [if_neg (by omega), hj]

/-- What the document's reader answers, by PlainV's words. -/
def gotR (s : ByteArray) (at_ err acc i : Nat) : Got → ByteArray × Int × Int × Int
  | .err e => (s, at_, e, 0)
  | .ok v l => (s, ((at_ + i + l : Nat) : Int), err, ((acc + 2 ^ (7 * i) * v : Nat) : Int))

theorem gotR_step {s : ByteArray} {at_ err acc i b : Nat} (hb : 128 ≤ b) (hb2 : b < 256) (g : Got) :
    gotR s at_ err (acc + b % 128 * 2 ^ (7 * i)) (i + 1) g = gotR s at_ err acc i (more b g) := by
  cases g with
  | err e => rfl
  | ok v l =>
    simp only [gotR, more]
    have e1 : b % 128 = b - 128 := by omega
    rw [pow7, e1]
    have e2 : 2 ^ (7 * i) * 128 * v = 2 ^ (7 * i) * (128 * v) := Nat.mul_assoc _ _ _
    have e3 : 2 ^ (7 * i) * (b - 128 + 128 * v) = 2 ^ (7 * i) * (b - 128) + 2 ^ (7 * i) * (128 * v) := Nat.mul_add _ _ _
    rw [e2, e3, Nat.mul_comm (b - 128)]
    generalize 2 ^ (7 * i) * (b - 128) = X
    generalize 2 ^ (7 * i) * (128 * v) = Y
    rw [show acc + X + Y = acc + (X + Y) from by omega, show at_ + (i + 1) + l = at_ + i + (l + 1) from by omega]

theorem ref_j1_bad {k : Nat} {x4 x5 x6 x7 x1 x2 : Int} {s : ByteArray} : cohortref01_Reader_Number.j1 (k + 1) x4 x5 x6 x7 true s x1 x2 = some (s, x1, 6, 0) := by
  rw [cohortref01_Reader_Number.j1]
  exact if_pos rfl

theorem ref_sum {acc i b : Nat} (ha : acc < 2 ^ (7 * i)) (hi : i ≤ 9) (h : i = 9 → b ≤ 1) :
    IntKind.u64.wrap ((acc : Int) + IntKind.u64.wrap (Int.tmod (b : Int) 128 * ((2 ^ (7 * i) : Nat) : Int))) = ((acc + b % 128 * 2 ^ (7 * i) : Nat) : Int) := by
  have hx := part_in hi h
  have hp : 2 ^ (7 * i) ≤ 2 ^ 63 := Nat.pow_le_pow_right (by decide) (by omega)
  have hsum : acc + b % 128 * 2 ^ (7 * i) < 18446744073709551616 := by
    by_cases h9 : i = 9
    · have h1 := h h9
      subst h9
      have : b % 128 * 2 ^ (7 * 9) ≤ 1 * 2 ^ (7 * 9) := Nat.mul_le_mul_right _ (by omega)
      omega
    · have := acc_next (b := b) ha
      have hp2 : 2 ^ (7 * (i + 1)) ≤ 2 ^ 63 := Nat.pow_le_pow_right (by decide) (by omega)
      omega
  have e : Int.tmod (b : Int) 128 * ((2 ^ (7 * i) : Nat) : Int) = ((b % 128 * 2 ^ (7 * i) : Nat) : Int) := by
    rw [Int.tmod_eq_emod_of_nonneg (by omega)]
    simp
  rw [e]
  generalize b % 128 * 2 ^ (7 * i) = X at *
  simp only [IntKind.wrap_u64]
  omega

theorem nlt {b : Nat} (h : ¬ b < 128) : ¬ (b : Int) < 128 := by omega

theorem unit_next {i : Nat} (h : i ≤ 8) : IntKind.u64.wrap (((2 ^ (7 * i) : Nat) : Int) * 128) = ((2 ^ (7 * (i + 1)) : Nat) : Int) := by
  have hp2 : 2 ^ (7 * (i + 1)) ≤ 2 ^ 63 := Nat.pow_le_pow_right (by decide) (by omega)
  rw [pow7] at hp2 ⊢
  generalize 2 ^ (7 * i) = X at *
  rw [IntKind.wrap_u64]
  omega

theorem ref_l0 (f : Nat) : ∀ (k i acc at_ err : Nat) (u : Int) (s : ByteArray), i + f = 10 → (f = 0 ∨ u = ((2 ^ (7 * i) : Nat) : Int)) → acc < 2 ^ (7 * i) → at_ ≤ s.size → s.size ≤ 4611686018427387904 → 2 * f < k →
    cohortref01_Reader_Number.l0 k acc u i s at_ err = some (gotR s at_ err acc i (rdv f (decide (i = 0)) ((bs s).drop (at_ + i)))) := by
  induction f with
  | zero =>
    intro k i acc at_ err u s hi hu ha h1 h2 hk
    obtain ⟨k, rfl⟩ : ∃ m, k = m + 1 := ⟨k - 1, by omega⟩
    rw [cohortref01_Reader_Number.l0, if_neg (by omega)]
    rfl
  | succ f ih =>
    intro k i acc at_ err u s hi hu ha h1 h2 hk
    obtain rfl : u = ((2 ^ (7 * i) : Nat) : Int) := by rcases hu with h | h; omega; exact h
    clear hu
    obtain ⟨k, rfl⟩ : ∃ m, k = m + 2 := ⟨k - 2, by omega⟩
    have n1 : i + 1 + f = 10 := by omega
    have n2 : f = 0 ∨ i ≤ 8 := by omega
    have n3 : 2 * f < k := by omega
    have n4 : wrap64 ((i : Int) + 1) = ((i + 1 : Nat) : Int) := by rw [wrap_in (by unfold In; omega)]; omega
    have ew : wrap64 ((at_ : Int) + (i : Int)) = ((at_ + i : Nat) : Int) := by rw [wrap_in (by unfold In; omega)]; omega
    rw [cohortref01_Reader_Number.l0, if_pos (by omega), ew]
    clear ew
    by_cases hend : s.size ≤ at_ + i
    · rw [if_pos (by omega), List.drop_eq_nil_of_le (by rw [bs_length]; exact hend)]
      rfl
    · have hlt : at_ + i < s.size := by omega
      have hb := bt_bs s (at_ + i) hlt
      have hb256 := bs_byte s _ (List.getElem_mem (l := bs s) (n := at_ + i) (by rw [bs_length]; exact hlt))
      rw [if_neg (by omega), if_pos (by omega), if_pos (by omega), hb, drop_bs s _ hlt]
      generalize (bs s)[at_ + i]'(by rw [bs_length]; exact hlt) = b at hb256
      have eb : IntKind.u64.wrap (b : Int) = (b : Int) := by rw [IntKind.wrap_u64]; omega
      rw [rdv, eb]
      clear eb
      by_cases hbad : (f = 0 ∧ b > 1) ∨ (b = 0 ∧ decide (i = 0) = false)
      · rw [if_pos hbad]
        rcases hbad with ⟨h9, h1⟩ | ⟨h0, hi0⟩
        · rw [if_pos (by omega), if_pos (by omega), ref_j1_bad]
          rfl
        · have hi1 := of_decide_eq_false hi0
          have hd : ((b : Int) == 0) = true := beq_iff_eq.2 (by omega)
          by_cases h9 : i = 9
          · rw [if_pos (by omega), if_neg (by omega), if_pos (by omega), hd, ref_j1_bad]
            rfl
          · rw [if_neg (by omega), if_pos (by omega), hd, ref_j1_bad]
            rfl
      · rw [if_neg hbad]
        have h9 : i = 9 → b ≤ 1 := fun e => by
          have := fun h => hbad (.inl ⟨by omega, h⟩)
          omega
        have hz : b = 0 → i = 0 := fun e => by
          refine Classical.byContradiction fun h => hbad (.inr ⟨e, decide_eq_false h⟩)
        have hj : cohortref01_Reader_Number.j1 (k + 1) acc ((2 ^ (7 * i) : Nat) : Int) i b false s at_ err = some (gotR s at_ err acc i (if b < 128 then Got.ok b 1 else more b (rdv f false (List.drop (at_ + i + 1) (bs s))))) := by
          rw [cohortref01_Reader_Number.j1]
          refine (if_neg (by decide)).trans ?_
          rw [ref_sum ha (by omega) h9]
          by_cases hb1 : b < 128
          · have e1 : wrap64 ((at_ : Int) + wrap64 ((i : Int) + 1)) = ((at_ + i + 1 : Nat) : Int) := by
              rw [wrap_in (a := (i : Int) + 1) (by unfold In; omega), wrap_in (by unfold In; omega)]
              omega
            rw [if_pos (by omega), if_pos hb1, e1, Nat.mod_eq_of_lt hb1]
            simp only [gotR]
            rw [Nat.mul_comm (2 ^ (7 * i))]
          · have hn := acc_next (b := b) ha
            have hih := ih k (i + 1) (acc + b % 128 * 2 ^ (7 * i)) at_ err (IntKind.u64.wrap (((2 ^ (7 * i) : Nat) : Int) * 128)) s n1 (n2.imp_right unit_next) hn h1 h2 n3
            rw [gotR_step (Nat.not_lt.1 hb1) hb256, decide_eq_false (Nat.succ_ne_zero i), show at_ + (i + 1) = at_ + i + 1 from rfl] at hih
            rw [if_neg (nlt hb1), if_neg hb1, n4]
            exact hih
        have hbz : i > 0 → ((b : Int) == 0) = false := fun h => beq_eq_false_iff_ne.2 (by intro e; have := hz (by omega); omega)
        by_cases h9' : i = 9
        · have := h9 h9'
          rw [if_pos (by omega), if_neg (by omega), if_pos (by omega), hbz (by omega), hj]
        · rw [if_neg (by omega)]
          by_cases h0 : i = 0
          · rw [if_neg (by omega), hj]
          · rw [if_pos (by omega), hbz (by omega), hj]

end Go.Proofs.Ytbeefbhoccdicaa.WireRead
