/- KernNames: the law's own code, walked. -/
import Derived.Test.YtbeefbhoccdicaaCutK
import Derived.Test.YtbeefbhoccdicaaIsK
import Derived.Test.YtbeefbhoccdicaaQKernx3
import Derived.Test.YtbeefbhoccdicaaQKernx6
namespace Go.Proofs.Ytbeefbhoccdicaa.NameLaw
open Go.RowKit Go.Proofs.YtbeefbhoccdicaaW.PrintWords Go.Proofs.YtbeefbhoccdicaaW.PrintLast Go.Proofs.YtbeefbhoccdicaaW.PrintMore Go.Proofs.Ytbeefbhoccdicaa.QGraphReads Go.Proofs.Ytbeefbhoccdicaa.KernM
set_option linter.unusedVariables false
set_option linter.unusedSimpArgs false

theorem names_same : ∃ N, kern_Programs.f = some N ∧ cohortref07_Names.f = some N ∧ N.length = 10 := ⟨_, rfl, rfl, rfl⟩
theorem five_said : ∃ F, cohortlaw07_five.f = some F ∧ F.length = 5 ∧ ∀ s : ByteArray, (∀ k : Nat, k < 5 → (rdOf ByteArray.empty F (k : Int)).toList ≠ s.toList) → s.toList ≠ ([98, 102, 115] : List UInt8) ∧ s.toList ≠ ([115, 115, 115, 112] : List UInt8) ∧ s.toList ≠ ([100, 101, 103, 114, 101, 101] : List UInt8) ∧ s.toList ≠ ([112, 97, 103, 101, 114, 97, 110, 107] : List UInt8) ∧ s.toList ≠ ([99, 99] : List UInt8) := by
  refine ⟨_, rfl, rfl, fun s h => ?_⟩
  have h0 := h 0 (by omega)
  have h1 := h 1 (by omega)
  have h2 := h 2 (by omega)
  have h3 := h 3 (by omega)
  have h4 := h 4 (by omega)
  exact ⟨fun e => h0 (e.symm ▸ by rw [ByteArray.toList_eq]; rfl), fun e => h1 (e.symm ▸ by rw [ByteArray.toList_eq]; rfl), fun e => h2 (e.symm ▸ by rw [ByteArray.toList_eq]; rfl), fun e => h3 (e.symm ▸ by rw [ByteArray.toList_eq]; rfl), fun e => h4 (e.symm ▸ by rw [ByteArray.toList_eq]; rfl)⟩

set_option maxHeartbeats 8000000 in
set_option maxRecDepth 100000 in
theorem law_calls (w : World) (s : ByteArray) (st id val : Int) (A : Option Addr) (nA cA : Nat) (M : List S4) (B : Option Addr) (cb : Nat) (X : Option Addr) (nx cx : Nat) (c4 c6 c7 c8 c9 c10 c11 c12 c13 c14 c15 c16 : Value) (hA : nA ≤ cA) (hM : M.length ≤ cb) (hr : Kd.C k4 w B M.length M) (o4 : c4.oneCell' = true) (o6 : c6.oneCell' = true) (o7 : c7.oneCell' = true) (o8 : c8.oneCell' = true) (o9 : c9.oneCell' = true) (o10 : c10.oneCell' = true) (o11 : c11.oneCell' = true) (o12 : c12.oneCell' = true) (o13 : c13.oneCell' = true) (o14 : c14.oneCell' = true) (o15 : c15.oneCell' = true) (o16 : c16.oneCell' = true) :
    Calls Try.prog 9 #[.string s, .agg #[.int .i64 st, .int .i64 id, .int .i64 val, .slice A nA cA, c4, .slice B M.length cb, c6, c7, c8, c9, c10, c11, c12, c13, c14, c15, c16, .slice X nx cx]] w fun e w' => e = .returned (.bool true) ∧ Below w.heap.size w w' := by
  obtain ⟨N, hN1, hN2, hN3⟩ := names_same
  obtain ⟨F, hF1, hF2, hF3⟩ := five_said
  have HN1 := Aside0.mk hN1
  have HN2 := Aside0.mk hN2
  have HF1 := Aside0.mk hF1
  have HF3 := Aside0.mk (hF3 s)
  clear hN1 hN2 hF1 hF3
  have HX := Aside0.mk (blk_new w (.cells #[.int .i64 st, .int .i64 id, .int .i64 val, .slice A nA cA, c4, .slice B M.length cb, c6, c7, c8, c9, c10, c11, c12, c13, c14, c15, c16, .slice X nx cx] 81))
  have HB := Aside0.mk (below_alloc (Below.refl w.heap.size w) (.cells #[.int .i64 st, .int .i64 id, .int .i64 val, .slice A nA cA, c4, .slice B M.length cb, c6, c7, c8, c9, c10, c11, c12, c13, c14, c15, c16, .slice X nx cx] 81))
  have HR := Aside0.mk (Kd.C_alloc hr (.cells #[.int .i64 st, .int .i64 id, .int .i64 val, .slice A nA cA, c4, .slice B M.length cb, c6, c7, c8, c9, c10, c11, c12, c13, c14, c15, c16, .slice X nx cx] 81))
  clear hr
  go_enter Try.func9, Try.ntmps9
  go_wp2_with fail
  generalize w.alloc (.cells #[.int .i64 st, .int .i64 id, .int .i64 val, .slice A nA cA, c4, .slice B M.length cb, c6, c7, c8, c9, c10, c11, c12, c13, c14, c15, c16, .slice X nx cx] 81) = w1 at HX HB HR ⊢
  refine (kern_Programs.calls N w1 HN1.out).mono ?_
  rintro e w2 ⟨v5, rfl, hv5, hb2⟩
  have HX2 := Aside0.mk (blk_below HX.out hb2)
  have HR2 := Aside0.mk (Kd.C_below HR.out hb2)
  have HB2 := Aside0.mk (below_then HB.out HB.out.size hb2)
  have HU2 := Aside0.mk hv5
  clear hb2 hv5 HX HR HB
  go_wp2_with fail
  refine (cohortref07_Names.calls N w2 HN2.out).mono ?_
  rintro e w3 ⟨v6, rfl, hv6, hb3⟩
  have HX3 := Aside0.mk (blk_below HX2.out hb3)
  have HR3 := Aside0.mk (Kd.C_below HR2.out hb3)
  have HB3 := Aside0.mk (below_then HB2.out HB2.out.size hb3)
  obtain ⟨A5, d5, hA5, _, hC5⟩ := Kd.R_reads (Kd.R_below HU2.out hb3)
  obtain ⟨A6, d6, hA6, _, hC6⟩ := Kd.R_reads hv6
  subst hA5
  subst hA6
  have HC5 := Aside0.mk hC5
  have HC6 := Aside0.mk hC6
  clear hb3 hv6 hC5 hC6 HX2 HR2 HB2 HU2
  go_wp2_with fail
  refine (AwakeK.awake_calls w3).mono ?_
  rintro e w4 ⟨rfl, hb4⟩
  have HX4 := Aside0.mk (blk_below HX3.out hb4)
  have HR4 := Aside0.mk (Kd.C_below HR3.out hb4)
  have HB4 := Aside0.mk (below_then HB3.out HB3.out.size hb4)
  have HD5 := Aside0.mk (Kd.C_below HC5.out hb4)
  have HD6 := Aside0.mk (Kd.C_below HC6.out hb4)
  clear hb4 HX3 HR3 HB3 HC5 HC6
  go_wp2_with fail
  go_loopw [7] (fun v7 wr => ∃ k : Nat, v7 = .int .i64 (k : Int) ∧ k ≤ N.length ∧ Aside0 (Below w4.heap.size w4 wr)) (fun v7 _ => (N.length - (intOf v7)).toNat)
  case atStart => exact ⟨0, rfl, Nat.zero_le _, ⟨Below.refl _ _⟩⟩
  case round =>
    obtain ⟨k, rfl, hk, HBr⟩ := hrel
    rcases Nat.lt_or_ge k N.length with hlt | hge
    · have hlt1 : ((k : Int) < (N.length : Int)) = True := eq_true (by omega)
      obtain ⟨ad5, hA5, hy⟩ := Kd.at_string (Kd.C_below HD5.out HBr.out) (k : Int) (by omega) (by omega)
      obtain ⟨ad6, hA6, hz⟩ := Kd.at_string (Kd.C_below HD6.out HBr.out) (k : Int) (by omega) (by omega)
      subst hA5 hA6
      rw [Int.toNat_natCast] at hy hz
      generalize rdOf ByteArray.empty N (k : Int) = sk at hy hz
      go_wp2_with fail
      go_quiet (fail)
      go_wp2_with fail
      go_roundw
      case rel => exact ⟨k + 1, by go_num, by omega, ⟨pw_below_drewN HBr.out _⟩⟩
      case measure => simp [intOf]; omega
    · have hk1 : k = N.length := by omega
      subst hk1
      have hlt1 : ((N.length : Int) < (N.length : Int)) = False := eq_false (by omega)
      have HX5 := Aside0.mk (blk_below HX4.out HBr.out)
      have HR5 := Aside0.mk (Kd.C_below HR4.out HBr.out)
      have HB5 := Aside0.mk (below_then HB4.out HB4.out.size HBr.out)
      clear HX4 HR4 HB4 HD5 HD6
      go_wp2_with fail
      refine (cohortlaw07_five.calls F wr HF1.out).mono ?_
      rintro e w6 ⟨v36, rfl, hv36, hb6⟩
      have HX6 := Aside0.mk (blk_below HX5.out hb6)
      have HR6 := Aside0.mk (Kd.C_below HR5.out hb6)
      have HB6 := Aside0.mk (below_then HB5.out HB5.out.size hb6)
      obtain ⟨A36, d36, hA36, _, hC36⟩ := Kd.R_reads hv36
      subst hA36
      have HC36 := Aside0.mk hC36
      clear hb6 hv36 hC36 HX5 HR5 HB5 HBr
      go_wp2_with fail
      go_loopw [38] (fun v38 w9 => ∃ k : Nat, v38 = .int .i64 (k : Int) ∧ k ≤ F.length ∧ w9 = w6 ∧ Aside0 (∀ j : Nat, j < k → (rdOf ByteArray.empty F (j : Int)).toList ≠ s.toList)) (fun v38 _ => (F.length - (intOf v38)).toNat)
      case atStart => exact ⟨0, rfl, Nat.zero_le _, rfl, ⟨fun j hj => absurd hj (by omega)⟩⟩
      case round =>
        obtain ⟨k, rfl, hk, hw9, HJ⟩ := hrel
        cases hw9
        have hF5 : F.length = 5 := hF2
        rcases Nat.lt_or_ge k F.length with hlt | hge
        · have hlt1 : ((k : Int) < (F.length : Int)) = True := eq_true (by omega)
          obtain ⟨ad7, hA7, hy⟩ := Kd.at_string HC36.out (k : Int) (by omega) (by omega)
          subst hA7
          rw [Int.toNat_natCast] at hy
          by_cases hq : (rdOf ByteArray.empty F (k : Int)).toList = s.toList
          · have q1 : ((rdOf ByteArray.empty F (k : Int)).toList == s.toList) = true := beq_iff_eq.mpr hq
            go_wp2_with fail
            go_ret
            exact ⟨by first | rfl | simp, HB6.out⟩
          · have q1 : ((rdOf ByteArray.empty F (k : Int)).toList == s.toList) = false := beq_eq_false_iff_ne.mpr hq
            have HQ := Aside0.mk hq
            clear hq
            go_wp2_with fail
            go_roundw
            case rel =>
              refine ⟨k + 1, by go_num, by omega, by trivial, ⟨fun j hj => ?_⟩⟩
              rcases Nat.lt_or_ge j k with h | h
              · exact HJ.out j h
              · have : j = k := by omega
                subst this
                exact HQ.out
            case measure => simp [intOf]; omega
        · have hk2 : k = 5 := by omega
          subst hk2
          have hlt1 : (((5 : Nat) : Int) < (F.length : Int)) = False := eq_false (by omega)
          obtain ⟨g1, g2, g3, g4, g5⟩ := HF3.out (fun j hj => HJ.out j hj)
          clear HC36 HJ
          go_wp2_with (first | (with_reducible refine gate_dst (N := 47) rfl ?_); refine wpList_load_row rfl 81 (.tmp 3) rfl w.heap.size rfl 81 _ (0, 0) _ HX6.out Try.underlying81 rfl (by kernel_rfl) ?_)
          refine (CutK.cut_calls w6 st id val A nA cA M B cb X nx cx c4 c6 c7 c8 c9 c10 c11 c12 c13 c14 c15 c16 hA hM HR6.out o4 o6 o7 o8 o9 o10 o11 o12 o13 o14 o15 o16).mono ?_
          rintro e w7 ⟨⟨e0, e1, e2, e3, e4, e5, e6, e7, e8, e9, e10, e11, e12, e13, e14, e15, e16, e17, rfl⟩, hb7⟩
          have HB7 := Aside0.mk (below_then HB6.out HB6.out.size hb7)
          clear hb7 HX6 HR6 HB6
          go_wp2_with fail
          refine (KernS.step_none w7 s _ _ _ _ _ _ _ _ _ _ _ _ _ _ _ _ _ _ g1 g2 g3 g4 g5).mono ?_
          unfold KernS.noneC
          rintro e w8 ⟨rfl, hb8⟩
          have HB8 := Aside0.mk (below_then HB7.out HB7.out.size hb8)
          clear hb8 HB7
          go_wp2_with fail
          refine (IsK.is_calls w8).mono ?_
          rintro e w9 ⟨rfl, hb9⟩
          have HB9 := Aside0.mk (below_then HB8.out HB8.out.size hb9)
          clear hb9 HB8
          go_wp2_with fail
          go_ret
          exact ⟨by first | rfl | simp, HB9.out⟩
end Go.Proofs.Ytbeefbhoccdicaa.NameLaw
