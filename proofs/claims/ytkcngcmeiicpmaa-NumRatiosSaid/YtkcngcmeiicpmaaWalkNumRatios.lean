/- NumRatios walked: the program's product over a third number and the document's tell the same. -/
import Derived.Test.YtkcngcmeiicpmaaRefRatio
namespace Go.Proofs.Ytkcngcmeiicpmaa.WalkNumRatios
open Go.RowKit Go.Proofs.YtkcngcmeiicpmaaW.PrintWords Go.Proofs.YtkcngcmeiicpmaaW.PrintLast Go.Proofs.YtkcngcmeiicpmaaW.PrintMore
open Go.Proofs.Ytkcngcmeiicpmaa.PNumSums Go.Proofs.Ytkcngcmeiicpmaa.Plain Go.Proofs.Ytkcngcmeiicpmaa.FnsNumSums Go.Proofs.Ytkcngcmeiicpmaa.Arr Go.Proofs.Ytkcngcmeiicpmaa.Mul

set_option maxHeartbeats 4000000 in
set_option maxRecDepth 100000 in
theorem steps (a b c : Int) (p : Int × Int) (w : World) (h1 : ∀ w, Calls Try.prog 19 #[.int .i64 a, .int .i64 b, .int .i64 c] w fun e w' => Said2 p e ∧ Drawn0 w w')
    (h2 : ∀ w, Calls Try.prog 20 #[.int .i64 a, .int .i64 b, .int .i64 c] w fun e w' => Said2 p e ∧ Below w.heap.size w w') :
    Calls Try.prog 6 #[.int .i64 a, .int .i64 b, .int .i64 c] w fun e w' => e = .returned (.bool true) ∧ Below w.heap.size w w' := by
  obtain ⟨p1, p2⟩ := p
  have H1 := Lib.hid h1
  have H2 := Lib.hid h2
  clear h1 h2
  go_enter Try.func6, Try.ntmps6
  go_wp2_with fail
  refine (H1.out _).mono ?_
  rintro e w' ⟨he, ⟨n1, rfl⟩⟩
  unfold Said2 at he
  subst he
  go_wp2_with fail
  refine (H2.out _).mono ?_
  rintro e w1 ⟨he, hw1⟩
  unfold Said2 at he
  subst he
  go_wp2_with fail
  refine (cohortlaw02_awake.calls true _ awake).mono ?_
  rintro e w' ⟨rfl, ⟨n2, rfl⟩⟩
  go_wp2
  go_ret
  exact ⟨rfl, below_drewN ((below_drewN (Below.refl _ w) _).trans hw1) _⟩

theorem walk (a b c : Int) (w : World) (ha : (Lit.int .i64 a).wf = true) (hb : (Lit.int .i64 b).wf = true) (hc : (Lit.int .i64 c).wf = true) :
    Calls Try.prog 6 #[.int .i64 a, .int .i64 b, .int .i64 c] w fun e w' => e = .returned (.bool true) ∧ Below w.heap.size w w' := by
  replace ha := in_wf ha
  replace hb := in_wf hb
  replace hc := in_wf hc
  by_cases h0 : c = 0
  · subst h0
    exact steps a b 0 _ w (fun w => Ratio.ratio_zero a b w) (fun w => RefRatio.ratio_zero a b w)
  · exact steps a b c _ w (fun w => Ratio.ratio_calls a b c w ha hb hc h0) (fun w => RefRatio.ratio_calls a b c w ha hb hc h0)

end Go.Proofs.Ytkcngcmeiicpmaa.WalkNumRatios
