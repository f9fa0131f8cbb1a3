/- The plain law of NumMany: the program's sum of a list and the document's sum tell the same number and the same error, of every list of signed numbers of 64 bits. -/
import Derived.Test.YtkcngcmeiicpmaaPNumManyx1
import Derived.OpenShut
namespace Go.Proofs.Ytkcngcmeiicpmaa.Pure
open Go.RowKit Go.Proofs.Ytkcngcmeiicpmaa.PNumMany Go.Proofs.YtkcngcmeiicpmaaW.PrintWords Go.Proofs.YtkcngcmeiicpmaaW.PrintLast

namespace NumManyAid
def In (a : Int) : Prop := -9223372036854775808 ≤ a ∧ a ≤ 9223372036854775807

theorem wrap_in {a : Int} (h : In a) : wrap64 a = a := by
  unfold In at h
  unfold wrap64
  omega

theorem wrap_range (a : Int) : In (wrap64 a) := by
  unfold In wrap64
  omega

/-- What both sums of two numbers come to. -/
def sum2 (a b : Int) : Int × Int := if -9223372036854775808 ≤ a + b ∧ a + b ≤ 9223372036854775807 then (a + b, 0) else (0, 20)

theorem sum2_in (a b : Int) : In (sum2 a b).1 := by
  unfold sum2 In
  split <;> simp <;> omega

theorem num_add {a b : Int} (ha : In a) (hb : In b) : num_Add.f a b = some (sum2 a b) := by
  unfold In at ha hb
  unfold num_Add.f sum2
  by_cases h : -9223372036854775808 ≤ a + b ∧ a + b ≤ 9223372036854775807
  · rw [if_pos h]
    have hw : wrap64 (a + b) = a + b := wrap_in h
    rw [hw]
    by_cases h0 : b = 0
    · subst h0; simp
    · have : (decide (a + b > a) != decide (b > 0)) = false := by
        by_cases hp : b > 0
        · rw [decide_eq_true hp, decide_eq_true (by omega)]; rfl
        · rw [decide_eq_false hp, decide_eq_false (by omega)]; rfl
      rw [this]; rfl
  · rw [if_neg h]
    have h0 : b ≠ 0 := by omega
    have : (decide (wrap64 (a + b) > a) != decide (b > 0)) = true := by
      by_cases hp : b > 0
      · have hw : ¬ wrap64 (a + b) > a := by unfold wrap64; omega
        rw [decide_eq_true hp, decide_eq_false hw]; rfl
      · have hw : wrap64 (a + b) > a := by unfold wrap64; omega
        rw [decide_eq_false hp, decide_eq_true hw]; rfl
    rw [this, if_pos rfl, if_neg h0]

theorem ref_add {a b : Int} (ha : In a) (hb : In b) : cohortref02_Add.f a b = some (sum2 a b) := by
  unfold In at ha hb
  unfold cohortref02_Add.f sum2
  by_cases hp : b > 0
  · have h1 : wrap64 (9223372036854775807 - b) = 9223372036854775807 - b := wrap_in (by unfold In; omega)
    rw [if_pos hp, h1]
    by_cases h : a > 9223372036854775807 - b
    · rw [if_pos h, if_neg (by omega)]
    · have hw : wrap64 (a + b) = a + b := wrap_in (by unfold In; omega)
      rw [if_neg h, if_neg (by omega), if_pos (by omega), hw]
  · rw [if_neg hp]
    by_cases hn : b < 0
    · have h1 : wrap64 (-9223372036854775808 - b) = -9223372036854775808 - b := wrap_in (by unfold In; omega)
      rw [if_pos hn, h1]
      by_cases h : a < -9223372036854775808 - b
      · rw [if_pos h, if_neg (by omega)]
      · have hw : wrap64 (a + b) = a + b := wrap_in (by unfold In; omega)
        rw [if_neg h, if_pos (by omega), hw]
    · have hw : wrap64 (a + b) = a + b := wrap_in (by unfold In; omega)
      rw [if_neg hn, if_pos (by omega), hw]

theorem awake : cohortlaw02_awake.f = some true := by
  unfold cohortlaw02_awake.f
  rw [num_add (by unfold In; omega) (by unfold In; omega), num_add (by unfold In; omega) (by unfold In; omega)]
  rfl

theorem step_in {i : Int} {n : Nat} (h0 : 0 ≤ i) (h : i < (n : Int)) (hn : n ≤ 140737488351232) : wrap64 (i + 1) = i + 1 := by
  unfold wrap64
  omega

theorem rd_in {l : List Int} (hl : ∀ x ∈ l, (Lit.int .i64 x).wf = true) {i : Int} (h0 : 0 ≤ i) (h : i < (l.length : Int)) : In (rd l i) := by
  have hm : rd l i ∈ l := by
    unfold rd
    rw [List.getD_eq_getElem?_getD, List.getElem?_eq_getElem (by omega)]
    simp
  exact bounds_i64 (hl _ hm)

theorem loops {l : List Int} (hn : l.length ≤ 140737488351232) (hl : ∀ x ∈ l, (Lit.int .i64 x).wf = true) (d : Nat) : ∀ (k : Nat) (s i : Int), In s → 0 ≤ i → i ≤ l.length → (l.length : Int) - i = d → d < k →
    ∃ r, num_Sum.l0 k s l l.length i = some r ∧ cohortref02_Sum.l0 k l s i = some r := by
  induction d with
  | zero =>
    intro k s i hs h0 h1 hd hk
    obtain ⟨k, rfl⟩ : ∃ m, k = m + 1 := ⟨k - 1, by omega⟩
    exact ⟨(s, 0), by simp only [num_Sum.l0]; rw [if_neg (by omega)], by simp only [cohortref02_Sum.l0]; rw [if_neg (by omega)]⟩
  | succ d ih =>
    intro k s i hs h0 h1 hd hk
    obtain ⟨k, rfl⟩ : ∃ m, k = m + 1 := ⟨k - 1, by omega⟩
    have hlt : i < (l.length : Int) := by omega
    have hr := rd_in hl h0 hlt
    have hw := step_in h0 hlt hn
    simp only [num_Sum.l0, cohortref02_Sum.l0]
    rw [if_pos hlt, if_pos h0, if_pos hlt, if_pos hlt, if_pos h0, num_add hs hr, ref_add hs hr, hw]
    simp only [Option.bind_some]
    by_cases hz : (sum2 s (rd l i)).2 = 0
    · rw [if_pos hz, if_pos hz]
      exact ih k _ (i + 1) (sum2_in _ _) (by omega) (by omega) (by omega) (by omega)
    · rw [if_neg hz, if_neg hz]
      exact ⟨_, rfl, rfl⟩
end NumManyAid

open NumManyAid in
/-- YOURS: ∀ (l0 : List Int), l0.length ≤ maxLen → l0.length * 8 ≤ 140737488351232 → (∀ x ∈ l0, (Lit.int .i64 x).wf = true) → ∃ k, cohortlaw02_NumMany.f k l0 = some true -/
theorem NumMany : cohortlaw02_NumMany.Pure := by
  intro l _ hb hl
  obtain ⟨r, h1, h2⟩ := loops (l := l) (by omega) hl l.length (l.length + 1) 0 0 (by unfold In; omega) (by omega) (by omega) (by omega) (by omega)
  refine ⟨l.length + 1, ?_⟩
  unfold cohortlaw02_NumMany.f num_Sum.f cohortref02_Sum.f
  rw [h1, h2, awake]
  simp

end Go.Proofs.Ytkcngcmeiicpmaa.Pure
