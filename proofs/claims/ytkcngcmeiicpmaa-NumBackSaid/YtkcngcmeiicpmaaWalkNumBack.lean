/- NumBack walked: what is added and taken away again, multiplied and divided again, is what it was, where there is room. -/
import Derived.Test.YtkcngcmeiicpmaaRatio
namespace Go.Proofs.Ytkcngcmeiicpmaa.WalkNumBack
open Go.RowKit Go.Proofs.YtkcngcmeiicpmaaW.PrintWords Go.Proofs.YtkcngcmeiicpmaaW.PrintLast Go.Proofs.YtkcngcmeiicpmaaW.PrintMore
open Go.Proofs.Ytkcngcmeiicpmaa.PNumSums Go.Proofs.Ytkcngcmeiicpmaa.Plain Go.Proofs.Ytkcngcmeiicpmaa.FnsNumSums Go.Proofs.Ytkcngcmeiicpmaa.Arr Go.Proofs.Ytkcngcmeiicpmaa.Mul Go.Proofs.Ytkcngcmeiicpmaa.Ratio

set_option maxHeartbeats 4000000 in
set_option maxRecDepth 100000 in
theorem steps (a b p1 p2 q1 q2 r1 r2 s1 s2 t1 t2 : Int) (w : World) (h1 : num_Add.f a b = some (p1, p2)) (h2 : num_Sub.f p1 b = some (q1, q2)) (h3 : num_Mul.f 1 a b = some (r1, r2)) (h4 : num_Div.f r1 b = some (s1, s2))
    (h5 : ∀ w, Calls Try.prog 19 #[.int .i64 a, .int .i64 b, .int .i64 b] w fun e w' => Said2 (t1, t2) e ∧ Drawn0 w w')
    (ha : p2 = 0 ∧ q2 = 0 ∧ q1 = a ∨ (p2 == 0) = false) (hb : b = 0 ∧ s2 = 21 ∧ t2 = 21 ∨ (b == 0) = false ∧ t2 = 0 ∧ t1 = a ∧ (r2 = 0 ∧ s2 = 0 ∧ s1 = a ∨ (r2 == 0) = false ∧ (r2 != 0) = true)) :
    Calls Try.prog 7 #[.int .i64 a, .int .i64 b] w fun e w' => e = .returned (.bool true) ∧ Drawn0 w w' := by
  have H1 := Lib.hid h1
  have H2 := Lib.hid h2
  have H3 := Lib.hid h3
  have H4 := Lib.hid h4
  have H5 := Lib.hid h5
  clear h1 h2 h3 h4 h5
  have haw := fun w => (cohortlaw02_awake.calls true w awake)
  have HW := Lib.hid haw
  clear haw
  rcases ha with ⟨rfl, rfl, rfl⟩ | hp <;> rcases hb with ⟨rfl, rfl, rfl⟩ | ⟨hbn, rfl, rfl, ⟨rfl, rfl, rfl⟩ | ⟨hrn, hrn2⟩⟩
  all_goals
    go_enter Try.func7, Try.ntmps7
    go_wp2_with fail
    refine (num_Add.calls _ _ _ _ _ H1.out).mono ?_
    rintro e w' ⟨rfl, ⟨n1, rfl⟩⟩
    go_wp2_with fail
    refine (num_Sub.calls _ _ _ _ _ H2.out).mono ?_
    rintro e w' ⟨rfl, ⟨n2, rfl⟩⟩
    go_wp2_with fail
    refine (num_Mul.calls 1 _ _ _ _ _ H3.out).mono ?_
    rintro e w' ⟨rfl, ⟨n3, rfl⟩⟩
    go_wp2_with fail
    refine (num_Div.calls _ _ _ _ _ H4.out).mono ?_
    rintro e w' ⟨rfl, ⟨n4, rfl⟩⟩
    go_wp2_with fail
    refine (H5.out _).mono ?_
    rintro e w' ⟨he, ⟨n5, rfl⟩⟩
    unfold Said2 at he
    subst he
    go_wp2_with fail
    refine (HW.out _).mono ?_
    rintro e w' ⟨rfl, ⟨n6, rfl⟩⟩
    go_wp2
    go_ret
    exact ⟨rfl, by repeat (first | exact Drawn0.refl _ | apply Drawn0.step)⟩

theorem clip_tdiv {a b : Int} (hb : b ≠ 0) : Int.tdiv (a * b) b = a := Int.mul_tdiv_cancel a hb

theorem ratio_back {a b : Int} (ha : In a) (hb : b ≠ 0) : ratio a b b = (a, 0) := by
  have hm : mag b ≠ 0 := by unfold mag; split <;> omega
  unfold ratio
  rw [if_neg hb, Int.mul_ediv_cancel _ hm]
  have e : ((decide (a < 0) != decide (b < 0)) != decide (b < 0)) = decide (a < 0) := by cases decide (a < 0) <;> cases decide (b < 0) <;> rfl
  rw [e]
  have e2 : (if decide (a < 0) = true then -mag a else mag a) = a := by
    unfold mag
    by_cases h : a < 0
    · rw [if_pos (decide_eq_true h), if_pos h, Int.neg_neg]
    · rw [if_neg (by rw [decide_eq_false h]; decide), if_neg h]
  rw [e2, clip_yes ha]

theorem walk (a b : Int) (w : World) (ha : (Lit.int .i64 a).wf = true) (hb : (Lit.int .i64 b).wf = true) :
    Calls Try.prog 7 #[.int .i64 a, .int .i64 b] w fun e w' => e = .returned (.bool true) ∧ Below w.heap.size w w' := by
  replace ha := in_wf ha
  replace hb := in_wf hb
  have h4 := num_div (a := (clip (a * b)).1) (b := b) (clip_in _)
  obtain ⟨d, hd⟩ : ∃ d, d = (if b = 0 then (0, 21) else clip (Int.tdiv (clip (a * b)).1 b) : Int × Int) := ⟨_, rfl⟩
  rw [← hd] at h4
  refine (steps a b (clip (a + b)).1 (clip (a + b)).2 (clip ((clip (a + b)).1 - b)).1 (clip ((clip (a + b)).1 - b)).2 (clip (a * b)).1 (clip (a * b)).2 d.1 d.2 (ratio a b b).1 (ratio a b b).2 w (num_add ha hb) (num_sub (clip_in _) hb) (num_mul ha hb) h4 ?_ ?_ ?_).mono fun e w' ⟨he, hd⟩ => ⟨he, hd.below⟩
  · intro w
    by_cases h0 : b = 0
    · subst h0
      exact ratio_zero a 0 w
    · exact ratio_calls a b b w ha hb hb h0
  · by_cases h : (clip (a + b)).2 = 0
    · have hi := clip_ok h
      rw [clip_yes hi, show (a + b, (0 : Int)).1 - b = a from by show a + b - b = a; omega, clip_yes ha]
      exact .inl ⟨rfl, rfl, rfl⟩
    · exact .inr (beq_eq_false_iff_ne.2 h)
  · by_cases h0 : b = 0
    · rw [if_pos h0] at hd
      subst h0 hd
      exact .inl ⟨rfl, rfl, rfl⟩
    · rw [if_neg h0] at hd
      rw [ratio_back ha h0]
      refine .inr ⟨beq_eq_false_iff_ne.2 h0, rfl, rfl, ?_⟩
      by_cases h : (clip (a * b)).2 = 0
      · have hi := clip_ok h
        rw [clip_yes hi, show Int.tdiv (a * b, (0 : Int)).1 b = a from clip_tdiv h0, clip_yes ha] at hd
        subst hd
        exact .inl ⟨h, rfl, rfl⟩
      · exact .inr ⟨beq_eq_false_iff_ne.2 h, bne_iff_ne.2 h⟩

end Go.Proofs.Ytkcngcmeiicpmaa.WalkNumBack
