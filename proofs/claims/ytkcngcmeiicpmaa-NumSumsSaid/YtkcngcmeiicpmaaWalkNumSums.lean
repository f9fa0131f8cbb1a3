/- NumSums walked: each of the program's four operations and of the document's four tells the same. -/
import Derived.Test.YtkcngcmeiicpmaaMul
namespace Go.Proofs.Ytkcngcmeiicpmaa.WalkNumSums
open Go.RowKit Go.Proofs.YtkcngcmeiicpmaaW.PrintWords Go.Proofs.YtkcngcmeiicpmaaW.PrintLast Go.Proofs.YtkcngcmeiicpmaaW.PrintMore
open Go.Proofs.Ytkcngcmeiicpmaa.PNumSums Go.Proofs.Ytkcngcmeiicpmaa.Plain Go.Proofs.Ytkcngcmeiicpmaa.FnsNumSums Go.Proofs.Ytkcngcmeiicpmaa.Arr Go.Proofs.Ytkcngcmeiicpmaa.Mul

set_option maxHeartbeats 4000000 in
set_option maxRecDepth 100000 in
theorem steps (a b : Int) (p q r s : Int × Int) (w : World) (h1 : num_Add.f a b = some p) (h2 : num_Sub.f a b = some q) (h3 : num_Mul.f 1 a b = some r) (h4 : num_Div.f a b = some s)
    (h5 : cohortref02_Add.f a b = some p) (h6 : cohortref02_Sub.f a b = some q) (h7 : ∀ w, Calls Try.prog 17 #[.int .i64 a, .int .i64 b] w fun e w' => Said2 r e ∧ Below w.heap.size w w') (h8 : cohortref02_Div.f 1 a b = some s) :
    Calls Try.prog 5 #[.int .i64 a, .int .i64 b] w fun e w' => e = .returned (.bool true) ∧ Below w.heap.size w w' := by
  obtain ⟨p1, p2⟩ := p
  obtain ⟨q1, q2⟩ := q
  obtain ⟨r1, r2⟩ := r
  obtain ⟨s1, s2⟩ := s
  have H1 := Lib.hid h1
  have H2 := Lib.hid h2
  have H3 := Lib.hid h3
  have H4 := Lib.hid h4
  have H5 := Lib.hid h5
  have H6 := Lib.hid h6
  have H7 := Lib.hid h7
  have H8 := Lib.hid h8
  clear h1 h2 h3 h4 h5 h6 h7 h8
  go_enter Try.func5, Try.ntmps5
  go_wp2_with fail
  refine (num_Add.calls a b p1 p2 _ H1.out).mono ?_
  rintro e w' ⟨rfl, ⟨n1, rfl⟩⟩
  go_wp2_with fail
  refine (num_Sub.calls a b q1 q2 _ H2.out).mono ?_
  rintro e w' ⟨rfl, ⟨n2, rfl⟩⟩
  go_wp2_with fail
  refine (num_Mul.calls 1 a b r1 r2 _ H3.out).mono ?_
  rintro e w' ⟨rfl, ⟨n3, rfl⟩⟩
  go_wp2_with fail
  refine (num_Div.calls a b s1 s2 _ H4.out).mono ?_
  rintro e w' ⟨rfl, ⟨n4, rfl⟩⟩
  go_wp2_with fail
  refine (cohortref02_Add.calls a b p1 p2 _ H5.out).mono ?_
  rintro e w' ⟨rfl, ⟨n5, rfl⟩⟩
  go_wp2_with fail
  refine (cohortref02_Sub.calls a b q1 q2 _ H6.out).mono ?_
  rintro e w' ⟨rfl, ⟨n6, rfl⟩⟩
  go_wp2_with fail
  refine (H7.out _).mono ?_
  rintro e w1 ⟨he, hw1⟩
  unfold Said2 at he
  subst he
  go_wp2_with fail
  refine (cohortref02_Div.calls 1 a b s1 s2 _ H8.out).mono ?_
  rintro e w' ⟨rfl, ⟨n8, rfl⟩⟩
  go_wp2_with fail
  refine (cohortlaw02_awake.calls true _ awake).mono ?_
  rintro e w' ⟨rfl, ⟨n9, rfl⟩⟩
  go_wp2
  go_ret
  exact ⟨rfl, below_drewN ((below_drewN (Below.refl _ w) _).trans hw1) _⟩

theorem walk (a b : Int) (w : World) (ha : (Lit.int .i64 a).wf = true) (hb : (Lit.int .i64 b).wf = true) :
    Calls Try.prog 5 #[.int .i64 a, .int .i64 b] w fun e w' => e = .returned (.bool true) ∧ Below w.heap.size w w' := by
  replace ha := in_wf ha
  replace hb := in_wf hb
  exact steps a b _ _ _ _ w (num_add ha hb) (num_sub ha hb) (num_mul ha hb) (num_div ha) (ref_add ha hb) (ref_sub ha hb) (fun w => mul_calls a b w ha hb) (ref_div ha hb)

end Go.Proofs.Ytkcngcmeiicpmaa.WalkNumSums
