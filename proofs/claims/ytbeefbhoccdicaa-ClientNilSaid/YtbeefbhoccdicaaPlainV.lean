/- Plain numbers in bytes: seven bits a byte, the lowest first; how they are read again. No program in sight. -/
import Derived.RowKit
namespace Go.Proofs.Ytbeefbhoccdicaa.PlainV

/-- A number's bytes. -/
def vb : Nat → Nat → List Nat
  | 0, _ => []
  | f + 1, n => if n < 128 then [n] else (n % 128 + 128) :: vb f (n / 128)

/-- What is read: an error, or a value and how many bytes it took. -/
inductive Got where
  | err (e : Nat)
  | ok (v l : Nat)

/-- One byte more: the higher bits stand behind it. -/
def more (b : Nat) : Got → Got
  | .err e => .err e
  | .ok v l => .ok (b - 128 + 128 * v) (l + 1)

def rdv : Nat → Bool → List Nat → Got
  | 0, _, _ => .err 6
  | _ + 1, _, [] => .err 4
  | f + 1, first, b :: t =>
    if (f = 0 ∧ b > 1) ∨ (b = 0 ∧ first = false) then .err 6
    else if b < 128 then .ok b 1
    else more b (rdv f false t)

theorem vb_length (f : Nat) : ∀ n, (vb f n).length ≤ f := by
  induction f with
  | zero => intro n; simp [vb]
  | succ f ih =>
    intro n
    unfold vb
    split
    · simp
    · have := ih (n / 128)
      simp only [List.length_cons]
      omega

theorem vb_pos (f n : Nat) : 1 ≤ (vb (f + 1) n).length := by
  unfold vb
  split <;> simp

theorem vb_byte (f : Nat) : ∀ n, ∀ b ∈ vb f n, b < 256 := by
  induction f with
  | zero => intro n b hb; simp [vb] at hb
  | succ f ih =>
    intro n b hb
    unfold vb at hb
    split at hb
    · simp at hb; omega
    · rcases List.mem_cons.1 hb with rfl | hb
      · omega
      · exact ih _ b hb

/-- What was told is read again. -/
theorem rdv_vb (f : Nat) : ∀ (n : Nat) (first : Bool) (rest : List Nat), n < 2 ^ (7 * f + 1) → (first = true ∨ n ≠ 0) → rdv (f + 1) first (vb (f + 1) n ++ rest) = .ok n (vb (f + 1) n).length := by
  induction f with
  | zero =>
    intro n first rest hn h0
    have h2 : n < 2 := by simpa using hn
    unfold vb
    rw [if_pos (by omega)]
    simp only [List.cons_append, List.nil_append, rdv]
    rw [if_neg, if_pos (by omega)]
    · rfl
    · rintro (⟨_, h⟩ | ⟨h, hf⟩)
      · omega
      · rcases h0 with h0 | h0
        · rw [h0] at hf; cases hf
        · exact h0 h
  | succ f ih =>
    intro n first rest hn h0
    unfold vb
    by_cases h : n < 128
    · rw [if_pos h]
      simp only [List.cons_append, List.nil_append, rdv]
      rw [if_neg, if_pos h]
      · rfl
      · rintro (⟨h, _⟩ | ⟨h, hf⟩)
        · omega
        · rcases h0 with h0 | h0
          · rw [h0] at hf; cases hf
          · exact h0 h
    · rw [if_neg h]
      have hs := ih (n / 128) false rest (by
        have e : 2 ^ (7 * (f + 1) + 1) = 2 ^ (7 * f + 1) * 128 := by rw [show 7 * (f + 1) + 1 = 7 * f + 1 + 7 from by omega, Nat.pow_add]
        rw [e] at hn
        exact Nat.div_lt_of_lt_mul (by omega)) (.inr (by omega))
      simp only [List.cons_append, rdv]
      rw [if_neg, if_neg (by omega), hs]
      · simp only [more, List.length_cons, Got.ok.injEq, and_true]
        omega
      · rintro (⟨h, _⟩ | ⟨h, _⟩) <;> omega

/-- What is read was told so. -/
theorem vb_rdv (f : Nat) : ∀ (first : Bool) (l : List Nat) (n k : Nat), (∀ b ∈ l, b < 256) → rdv (f + 1) first l = .ok n k → l.take k = vb (f + 1) n ∧ k ≤ l.length ∧ n < 2 ^ (7 * f + 1) ∧ (first = true ∨ n ≠ 0) := by
  induction f with
  | zero =>
    intro first l n k hl h
    cases l with
    | nil => simp [rdv] at h
    | cons b t =>
      simp only [rdv] at h
      split at h
      · cases h
      · rename_i hc
        split at h
        · rename_i hb
          injection h with h1 h2
          subst h1 h2
          have : ¬ b > 1 := fun hh => hc (.inl ⟨trivial, hh⟩)
          refine ⟨by simp [vb, hb], by simp, by simp; omega, ?_⟩
          cases first with
          | true => exact .inl rfl
          | false => exact .inr fun e => hc (.inr ⟨e, rfl⟩)
        · simp [more] at h
  | succ f ih =>
    intro first l n k hl h
    cases l with
    | nil => simp [rdv] at h
    | cons b t =>
      rw [rdv] at h
      split at h
      · cases h
      · rename_i hc
        split at h
        · rename_i hb
          injection h with h1 h2
          subst h1 h2
          refine ⟨by simp [vb, hb], by simp, ?_, ?_⟩
          · have : 2 ^ 8 ≤ 2 ^ (7 * (f + 1) + 1) := Nat.pow_le_pow_right (by decide) (by omega)
            omega
          · cases first with
            | true => exact .inl rfl
            | false => exact .inr fun e => hc (.inr ⟨e, rfl⟩)
        · rename_i hb
          have hb256 := hl b (by simp)
          cases hr : rdv (f + 1) false t with
          | err e => rw [hr] at h; simp [more] at h
          | ok v m =>
            rw [hr] at h
            simp only [more] at h
            injection h with h1 h2
            subst h1 h2
            obtain ⟨e1, e2, e3, e4⟩ := ih false t v m (fun x hx => hl x (List.mem_cons_of_mem _ hx)) hr
            have hv : v ≠ 0 := by rcases e4 with e4 | e4; cases e4; exact e4
            refine ⟨?_, by simpa using e2, ?_, .inr (by omega)⟩
            · have q : (b - 128 + 128 * v) / 128 = v := by omega
              have r : (b - 128 + 128 * v) % 128 + 128 = b := by omega
              conv => rhs; rw [vb]
              rw [if_neg (by omega), q, r, List.take_succ_cons, e1]
            · have e : 2 ^ (7 * (f + 1) + 1) = 2 ^ (7 * f + 1) * 128 := by rw [show 7 * (f + 1) + 1 = 7 * f + 1 + 7 from by omega, Nat.pow_add]
              rw [e]
              omega

theorem rdv_le (f : Nat) : ∀ (first : Bool) (l : List Nat) (n k : Nat), rdv f first l = .ok n k → 1 ≤ k ∧ k ≤ l.length ∧ k ≤ f := by
  induction f with
  | zero => intro first l n k h; simp [rdv] at h
  | succ f ih =>
    intro first l n k h
    cases l with
    | nil => simp [rdv] at h
    | cons b t =>
      rw [rdv] at h
      split at h
      · cases h
      · split at h
        · injection h with h1 h2
          subst h2
          simp
        · cases hr : rdv f false t with
          | err e => rw [hr] at h; simp [more] at h
          | ok v m =>
            rw [hr] at h
            simp only [more] at h
            injection h with h1 h2
            subst h2
            have := ih false t v m hr
            simp only [List.length_cons]
            omega

end Go.Proofs.Ytbeefbhoccdicaa.PlainV
