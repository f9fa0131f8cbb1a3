/- GraphFinds: the law's own code, walked. -/
import Derived.Test.YtbeefbhoccdicaaCloneW
import Derived.Test.YtbeefbhoccdicaaPartG
import Derived.Test.YtbeefbhoccdicaaAwakeG
import Derived.Test.YtbeefbhoccdicaaRefCheck
namespace Go.Proofs.Ytbeefbhoccdicaa.FindsLaw
open Go.RowKit Go.Shelf Go.Proofs.YtbeefbhoccdicaaW.PrintWords Go.Proofs.YtbeefbhoccdicaaW.PrintLast Go.Proofs.YtbeefbhoccdicaaW.PrintMore Go.Proofs.Ytbeefbhoccdicaa.QGraphReads Go.Proofs.Ytbeefbhoccdicaa.WireNum Go.Proofs.Ytbeefbhoccdicaa.PutG Go.Proofs.Ytbeefbhoccdicaa.FindG Go.Proofs.Ytbeefbhoccdicaa.EdgesG Go.Proofs.Ytbeefbhoccdicaa.AllG Go.Proofs.Ytbeefbhoccdicaa.CheckG Go.Proofs.Ytbeefbhoccdicaa.SameG Go.Proofs.Ytbeefbhoccdicaa.RefCheck Go.Proofs.Ytbeefbhoccdicaa.RefSpec Go.Proofs.Ytbeefbhoccdicaa.ClG
set_option linter.unusedVariables false
set_option linter.unusedSimpArgs false

theorem wrap_ne (a : Int) : wrap64 (a + 1) ≠ a := by unfold wrap64; omega
theorem nil_of {L M : List S53} (h : M.length = L.length) (h0 : 0 < L.length) (h1 : (M.getD 0 z53).f1 = wrap64 ((L.getD 0 z53).f1 + 1)) : M ≠ L := by
  rintro rfl
  exact wrap_ne _ h1.symm

set_option maxHeartbeats 8000000 in
set_option maxRecDepth 100000 in
theorem law_calls (w : World) (L : List S53) (A : Option Addr) (c : Nat) (id parts : Int) (hc : L.length ≤ c) (hr : Kd.C k53 w A L.length L) (hv : ∀ v ∈ L, v.f2.length * 16 ≤ 140737488351232) (hl : L.length * 40 ≤ 140737488351232) :
    Calls Try.prog 7 #[.agg #[.slice A L.length c], .int .i64 id, .int .i64 parts] w fun e w' => e = .returned (.bool true) ∧ Below w.heap.size w w' := by
  have hev : ∀ v ∈ L, v.f2.length ≤ 8796093022208 := fun v hm => by have := hv v hm; omega
  obtain ⟨kc, r, hkc0, hck⟩ := ref_check L (fun v hm => by have := hev v hm; omega)
  obtain ⟨kr, hkr0⟩ := ref_ref L (by omega) hev
  have hkf0 := ref_find L (by omega) id (k := L.length + 1) (by omega)
  obtain ⟨M, hM⟩ : ∃ M, L.map r59 = M := ⟨_, rfl⟩
  rw [hM] at hkc0 hkr0 hkf0
  have hkc := Aside0.mk hkc0
  have hkr := Aside0.mk hkr0
  have hkf := Aside0.mk hkf0
  have HV := Aside0.mk hv
  have HL := Aside0.mk hl
  have HCK := Aside0.mk hck
  have HX1 := Aside0.mk (blk_new w (.cells #[.slice A L.length c] 24))
  have HB1 := Aside0.mk (below_alloc (Below.refl w.heap.size w) (.cells #[.slice A L.length c] 24))
  have HR1 := Aside0.mk (Kd.C_alloc hr (.cells #[.slice A L.length c] 24))
  clear hr hkc0 hkr0 hkf0 hck hM hv hl hev
  go_enter Try.func7, Try.ntmps7
  go_wp2_with fail
  generalize w.alloc (.cells #[.slice A L.length c] 24) = w1 at HX1 HB1 HR1 ⊢
  refine (AwakeG.awake_calls w1).mono ?_
  rintro e w2 ⟨rfl, hb2⟩
  have HX2 := Aside0.mk (blk_below HX1.out hb2)
  have HR2 := Aside0.mk (Kd.C_below HR1.out hb2)
  have HB2 := Aside0.mk (below_then HB1.out HB1.out.size hb2)
  have hc2 : w2.cell? ⟨w.heap.size, 0, none⟩ = some (.slice A L.length c) := (blk_cell HX2.out 0).trans rfl
  clear hb2 HX1 HR1 HB1
  go_wp2_with fail
  refine (cohortlaw03_Ref.calls kr A c L M w2 HR2.out hc hkr.out).mono ?_
  rintro e w3 ⟨u3, rfl, hS3, hb3⟩
  obtain ⟨A3, c3, hA3, hl3, hC3⟩ := Kd.S_reads hS3
  subst hA3
  have HX3 := Aside0.mk (blk_below HX2.out hb3)
  have HR3 := Aside0.mk (Kd.C_below HR2.out hb3)
  have HB3 := Aside0.mk (below_then HB2.out HB2.out.size hb3)
  clear hS3 hb3 HX2 HR2 HB2 hc2
  go_wp2_with fail
  refine (cohortref03_Check.calls kc A3 c3 M r w3 hC3 hl3 hkc.out).mono ?_
  rintro e w4 ⟨rfl, hd⟩
  have HX4 := Aside0.mk (blk_below HX3.out hd.below)
  have HR4 := Aside0.mk (Kd.C_below HR3.out hd.below)
  have HB4 := Aside0.mk (below_then HB3.out HB3.out.size hd.below)
  clear hd hC3 hl3 HX3 HR3 HB3
  by_cases h0 : r = 0
  case neg =>
    have hbad : (r != 0) = true := bne_iff_ne.2 h0
    clear h0
    go_wp2_with fail
    refine (AwakeG.awake_calls w4).mono ?_
    rintro e w5 ⟨rfl, hb5⟩
    have HB5 := Aside0.mk (below_then HB4.out HB4.out.size hb5)
    clear hb5
    go_wp2_with fail
    go_ret
    exact ⟨rfl, HB5.out⟩
  case pos =>
  subst h0
  have hgn : Grows L ∧ L.length ≤ 256 := by
    have h := HCK.out
    unfold Checks at h
    rcases h with ⟨_, h⟩ | ⟨_, _, h⟩ | ⟨_, _, _, h⟩ | ⟨_, _, _, _, h⟩ | ⟨h1, h2, _⟩
    · omega
    · omega
    · omega
    · omega
    · exact ⟨h2, h1⟩
  have HG := Aside0.mk hgn.1
  have hn := hgn.2
  clear hgn HCK
  have hc4 : w4.cell? ⟨w.heap.size, 0, none⟩ = some (.slice A L.length c) := (blk_cell HX4.out 0).trans rfl
  go_wp2_with fail
  refine (find_calls w4 L id A c HR4.out HG.out hn).mono ?_
  rintro e w5 ⟨rfl, hb5⟩
  have HX5 := Aside0.mk (blk_below HX4.out hb5)
  have HR5 := Aside0.mk (Kd.C_below HR4.out hb5)
  have HB5 := Aside0.mk (below_then HB4.out HB4.out.size hb5)
  have hc5 : w5.cell? ⟨w.heap.size, 0, none⟩ = some (.slice A L.length c) := (blk_cell HX5.out 0).trans rfl
  clear hb5 HX4 HR4 HB4 hc4
  go_wp2_with fail
  refine (cohortlaw03_Ref.calls kr A c L M w5 HR5.out hc hkr.out).mono ?_
  rintro e w6 ⟨u6, rfl, hS6, hb6⟩
  obtain ⟨A6, c6, hA6, hl6, hC6⟩ := Kd.S_reads hS6
  subst hA6
  have HX6 := Aside0.mk (blk_below HX5.out hb6)
  have HR6 := Aside0.mk (Kd.C_below HR5.out hb6)
  have HB6 := Aside0.mk (below_then HB5.out HB5.out.size hb6)
  clear hS6 hb6 HX5 HR5 HB5 hc5
  go_wp2_with fail
  refine (cohortref03_Find.calls (L.length + 1) A6 c6 M id (lowR L id : Int) (isR L id) w6 hC6 hl6 hkf.out).mono ?_
  rintro e w7 ⟨rfl, hd⟩
  have HX7 := Aside0.mk (blk_below HX6.out hd.below)
  have HR7 := Aside0.mk (Kd.C_below HR6.out hd.below)
  have HB7 := Aside0.mk (below_then HB6.out HB6.out.size hd.below)
  have hc7 : w7.cell? ⟨w.heap.size, 0, none⟩ = some (.slice A L.length c) := (blk_cell HX7.out 0).trans rfl
  clear hd hC6 hl6 HX6 HR6 HB6
  go_wp2_with fail
  refine (CloneW.clone_calls w7 L A c HR7.out (by have := HL.out; omega) (fun v hm => by have := HV.out v hm; omega)).mono ?_
  rintro e w8 ⟨v, rfl, hcl, hb8⟩
  obtain ⟨Av, cv, hvv, hlv, hCv⟩ := hcl.reads
  subst hvv
  have HCL8 := Aside0.mk (Cl.below hcl (below_alloc (Below.refl _ _) (.cells #[.slice Av L.length cv] 24)))
  have hc8 : w8.cell? ⟨w.heap.size, 0, none⟩ = some (.slice A L.length c) := (blk_cell (blk_below HX7.out hb8) 0).trans rfl
  have hlt8 : w.heap.size < w8.heap.size := blk_lt (blk_below HX7.out hb8)
  have hne8 : (w.heap.size = w8.heap.size) = False := eq_false (by omega)
  have HX8 := Aside0.mk (blk_alloc (blk_below HX7.out hb8) (.cells #[.slice Av L.length cv] 24))
  have HN8 := Aside0.mk (blk_new w8 (.cells #[.slice Av L.length cv] 24))
  have HR8 := Aside0.mk (Kd.C_alloc (Kd.C_below HR7.out hb8) (.cells #[.slice Av L.length cv] 24))
  have HCv := Aside0.mk (Kd.C_alloc hCv (.cells #[.slice Av L.length cv] 24))
  have HB8 := Aside0.mk (below_alloc (below_then HB7.out HB7.out.size hb8) (.cells #[.slice Av L.length cv] 24))
  have hw8 : w7.heap.size ≤ w8.heap.size := hb8.size
  have hw7 : w.heap.size ≤ w7.heap.size := HB7.out.size
  have hlt7 : w.heap.size < w7.heap.size := blk_lt HX7.out
  have HBS8 := Aside0.mk (below_alloc hb8 (.cells #[.slice Av L.length cv] 24))
  have HR0 := HR7
  clear hcl hb8 hCv HX7 HR7 HB7 hc7
  go_wp2_with fail
  refine (same_calls _ L L Av A cv c HCv.out HR8.out).mono ?_
  have hbn : w8.heap.size < (w8.alloc (.cells #[.slice Av L.length cv] 24)).heap.size := by rw [World.size_alloc]; omega
  generalize w8.alloc (.cells #[.slice Av L.length cv] 24) = w9 at HCL8 HX8 HN8 HR8 HCv HB8 HBS8 hbn ⊢
  rintro e w10 ⟨⟨b, rfl, hb⟩, hb10⟩
  obtain rfl : b = true := hb.2 rfl
  have HCL := Aside0.mk (Cl.below HCL8.out hb10)
  have HX := Aside0.mk (blk_below HX8.out hb10)
  have HN := Aside0.mk (blk_below HN8.out hb10)
  have HB := Aside0.mk (below_then HB8.out HB8.out.size hb10)
  have HR := Aside0.mk (Kd.C_below HR8.out hb10)
  have HBS := Aside0.mk (below_then HBS8.out HBS8.out.size hb10)
  clear hb hb10 HCL8 HX8 HN8 HR8 HCv HB8 HBS8 hbn
  go_wp2_with fail
  go_loopw [13] (fun v13 wr => ∃ (k : Nat) (M : List S53), v13 = .int .i64 (k : Int) ∧ k ≤ L.length ∧ Aside0 (M.length = L.length) ∧ Aside0 (k = 0 → M = L) ∧ Aside0 (0 < k → (M.getD 0 z53).f1 = wrap64 ((L.getD 0 z53).f1 + 1)) ∧ Aside0 (Cl wr w7.heap.size (.slice Av L.length cv) M) ∧ Aside0 (Below w.heap.size w wr) ∧ Aside0 (wr.heap[w.heap.size]? = some (.cells #[.slice A L.length c] 24 (0, 0))) ∧ Aside0 (wr.heap[w8.heap.size]? = some (.cells #[.slice Av L.length cv] 24 (0, 0))) ∧ Aside0 (Below w7.heap.size w7 wr)) (fun v13 _ => (L.length - (intOf v13)).toNat)
  case atStart => exact ⟨0, L, rfl, Nat.zero_le _, ⟨rfl⟩, ⟨fun _ => rfl⟩, ⟨fun h => by omega⟩, HCL, HB, HX, HN, HBS⟩
  case round =>
    obtain ⟨k, M1, rfl, hk, HML, HM0, HM1, HCr, HBr, HXr, HNr, HSr⟩ := hrel
    have hcn : wr.cell? ⟨w8.heap.size, 0, none⟩ = some (.slice Av L.length cv) := (blk_cell HNr.out 0).trans rfl
    rcases Nat.lt_or_ge k L.length with hlt | hge
    · have hlt1 : ((k : Int) < (L.length : Int)) = True := eq_true (by omega)
      have hk2 : (0 : Int) ≤ (k : Int) ∧ (k : Int) < (L.length : Int) := ⟨by omega, by omega⟩
      obtain ⟨g, cap, hv, hbg, hgl, cells, hgt⟩ := HCr.out.form (by have := HML.out; omega)
      injection hv with hv1 hv2 hv3
      subst hv1
      subst hv3
      have hML := HML.out
      have hCr := HCr.out
      rw [← hML] at hCr
      obtain ⟨A2, c2, hx0, hx1, hx2, hf1⟩ := hCr.at_ (show k < M1.length by omega)
      have hV1 := hCr.value (show k < M1.length by omega) (wrap64 ((M1.getD k z53).f1 + 1))
      rw [hML] at hV1
      have HV1 := Aside0.mk hV1
      obtain ⟨y0, hy0⟩ : ∃ y0, (M1.getD k z53).f1 = y0 := ⟨_, rfl⟩
      rw [hy0] at hx1
      have HY0 := Aside0.mk hy0
      clear hV1 hCr hx0 hx2 hML hy0
      clear hv2
      go_wp2_with fail
      have hg8 : w8.heap.size ≠ g := by
        intro h
        rw [← h] at hgt
        have := hgt.symm.trans HNr.out
        injection this with this
        injection this with _ this
        cases this
      have hgw : w.heap.size ≠ g := by omega
      obtain ⟨M2, hM2⟩ : ∃ M2, M1.set k ⟨(M1.getD k z53).f0, wrap64 ((M1.getD k z53).f1 + 1), (M1.getD k z53).f2⟩ = M2 := ⟨_, rfl⟩
      have HML2 := Aside0.mk (show M2.length = L.length by rw [← hM2, List.length_set]; exact HML.out)
      have HM2 := Aside0.mk (show (M2.getD 0 z53).f1 = wrap64 ((L.getD 0 z53).f1 + 1) by
        rw [← hM2]
        rcases Nat.eq_zero_or_pos k with h0 | h0
        · have hh := HM0.out h0
          subst h0
          rw [ClG.getD_set_eq _ _ _ _ (by rw [HML.out]; exact hlt), hh]
        · rw [ClG.getD_set_ne _ _ _ _ _ (by omega)]
          exact HM1.out h0)
      have HV2 := HV1
      rw [hM2, HY0.out] at HV2
      have HB2 := Aside0.mk (below_set (v := .int .i64 (wrap64 (y0 + 1))) (j := k * 3 + 1) HBr.out (show w.heap.size ≤ g by omega))
      have HS2 := Aside0.mk (below_set (v := .int .i64 (wrap64 (y0 + 1))) (j := k * 3 + 1) HSr.out hbg)
      have HX2 := Aside0.mk (blk_far (p := ⟨g, k * 3 + 1, none⟩) HXr.out hgw (.int .i64 (wrap64 (y0 + 1))))
      have HN2 := Aside0.mk (blk_far (p := ⟨g, k * 3 + 1, none⟩) HNr.out hg8 (.int .i64 (wrap64 (y0 + 1))))
      generalize wr.setCell ⟨g, k * 3 + 1, none⟩ (.int .i64 (wrap64 (y0 + 1))) = w11 at HV2 HB2 HS2 HX2 HN2 ⊢
      obtain ⟨n2, hn2⟩ : ∃ n2, (M2.getD k z53).f2.length = n2 := ⟨_, rfl⟩
      have HN2L := Aside0.mk hn2
      have hn2s : n2 ≤ 9223372036854775807 := by rw [← hn2]; exact HV2.out.short (show k < M2.length by rw [HML2.out]; exact hlt)
      clear hM2 hn2 HV1 HY0 hx1 hf1 HBr HSr HXr HNr hcn HCr HM0 HM1 hgt hgl
      go_loopw [14] (fun v14 wq => ∃ (m : Nat) (M : List S53), v14 = .int .i64 (m : Int) ∧ m ≤ n2 ∧ Aside0 (M.length = L.length) ∧ Aside0 ((M.getD k z53).f2.length = n2) ∧ Aside0 ((M.getD 0 z53).f1 = wrap64 ((L.getD 0 z53).f1 + 1)) ∧ Aside0 (Cl wq w7.heap.size (.slice (some ⟨g, 0, none⟩) L.length cv) M) ∧ Aside0 (Below w.heap.size w wq) ∧ Aside0 (wq.heap[w.heap.size]? = some (.cells #[.slice A L.length c] 24 (0, 0))) ∧ Aside0 (wq.heap[w8.heap.size]? = some (.cells #[.slice (some ⟨g, 0, none⟩) L.length cv] 24 (0, 0))) ∧ Aside0 (Below w7.heap.size w7 wq)) (fun v14 _ => (n2 - (intOf v14)).toNat)
      case atStart => exact ⟨0, M2, rfl, Nat.zero_le _, HML2, HN2L, HM2, HV2, HB2, HX2, HN2, HS2⟩
      case round =>
        obtain ⟨m, M3, rfl, hm, HML3, HL3, HF3, HC3, HB3, HX3, HN3, HS3⟩ := hrel
        have hcn3 : _ = some (Value.slice (some ⟨g, 0, none⟩) L.length cv) := (blk_cell HN3.out 0).trans rfl
        have hCr := HC3.out
        rw [← HML3.out] at hCr
        rcases Nat.lt_or_ge m n2 with hltm | hgem
        · have hltm1 : ((m : Int) < (n2 : Int)) = True := eq_true (by omega)
          have hm2 : (0 : Int) ≤ (m : Int) ∧ (m : Int) < (n2 : Int) := ⟨by omega, by omega⟩
          obtain ⟨ge, ce, hz0, hz1, hz2, hbe, hlge, ⟨cells2, hgt2⟩, hZ⟩ := hCr.weight (show k < M3.length by rw [HML3.out]; exact hlt) (show m < _ by rw [HL3.out]; exact hltm)
          rw [HL3.out] at hz0
          rw [HML3.out] at hZ
          have HZ := Aside0.mk hZ
          obtain ⟨y1, hy1⟩ : ∃ y1, ((M3.getD k z53).f2.getD m z67).f1 = y1 := ⟨_, rfl⟩
          rw [hy1] at hz1
          clear hZ hCr hy1
          go_wp2_with fail
          have hge8 : w8.heap.size ≠ ge := by
            intro h
            rw [← h] at hgt2
            have := hgt2.symm.trans HN3.out
            injection this with this
            injection this with _ this
            cases this
          have hgew : w.heap.size ≠ ge := by omega
          have HB4 := Aside0.mk (below_set (v := .int .i64 (wrap64 (y1 + 1))) (j := m * 2 + 1) HB3.out (show w.heap.size ≤ ge by omega))
          have HS4 := Aside0.mk (below_set (v := .int .i64 (wrap64 (y1 + 1))) (j := m * 2 + 1) HS3.out hbe)
          have HX4 := Aside0.mk (blk_far (p := ⟨ge, m * 2 + 1, none⟩) HX3.out hgew (.int .i64 (wrap64 (y1 + 1))))
          have HN4 := Aside0.mk (blk_far (p := ⟨ge, m * 2 + 1, none⟩) HN3.out hge8 (.int .i64 (wrap64 (y1 + 1))))
          have HC4 := Aside0.mk (HZ.out (wrap64 (y1 + 1)))
          have hk3 : k < M3.length := by rw [HML3.out]; exact hlt
          go_roundw
          case rel =>
            refine ⟨m + 1, _, by go_num, by omega, ⟨?_⟩, ⟨?_⟩, ⟨?_⟩, HC4, HB4, HX4, HN4, HS4⟩
            · rw [List.length_set]; exact HML3.out
            · rw [ClG.getD_set_eq _ _ _ _ hk3]
              show ((M3.getD k z53).f2.set _ _).length = n2
              rw [List.length_set]; exact HL3.out
            · by_cases hk0 : k = 0
              · subst hk0
                rw [ClG.getD_set_eq _ _ _ _ hk3]
                exact HF3.out
              · rw [ClG.getD_set_ne _ _ _ _ _ hk0]
                exact HF3.out
          case measure => simp [intOf]; omega
        · have hmn : m = n2 := by omega
          subst hmn
          obtain ⟨A3', c3', _, _, hx3, _⟩ := hCr.at_ (show k < M3.length by rw [HML3.out]; exact hlt)
          rw [HL3.out] at hx3
          clear hCr
          go_wp2_with fail
          go_roundw
          case rel => exact ⟨k + 1, M3, by go_num, by omega, HML3, ⟨fun h => by omega⟩, ⟨fun _ => HF3.out⟩, HC3, HB3, HX3, HN3, HS3⟩
          case measure => simp [intOf]; omega
    · have hk1 : k = L.length := by omega
      subst hk1
      obtain ⟨Az, cz, hz, hlz, hCz⟩ := HCr.out.reads
      injection hz with hz1 hz2 hz3
      subst hz1
      subst hz3
      have HD := Aside0.mk hCz
      have HRr := Aside0.mk (Kd.C_below HR0.out HSr.out)
      have HCV := Aside0.mk hlz
      clear hz2 hlz hCz
      go_wp2_with fail
      refine (AwakeG.awake_calls wr).mono ?_
      rintro e wa ⟨rfl, hba⟩
      have HXa := Aside0.mk (blk_below HXr.out hba)
      have HNa := Aside0.mk (blk_below HNr.out hba)
      have HBa := Aside0.mk (below_then HBr.out HBr.out.size hba)
      have HDa := Aside0.mk (Kd.C_below HD.out hba)
      have HRa := Aside0.mk (Kd.C_below HRr.out hba)
      clear hba hcn HXr HNr HBr HD HRr HSr
      go_wp2_with fail
      refine (PartG.part_calls wa id parts).mono ?_
      rintro e wb ⟨rfl, hbb⟩
      have HXb := Aside0.mk (blk_below HXa.out hbb)
      have HNb := Aside0.mk (blk_below HNa.out hbb)
      have HBb := Aside0.mk (below_then HBa.out HBa.out.size hbb)
      have HDb := Aside0.mk (Kd.C_below HDa.out hbb)
      have HRb := Aside0.mk (Kd.C_below HRa.out hbb)
      clear hbb HXa HNa HBa HDa HRa
      go_wp2_with fail
      refine (PartG.ref_calls wb id parts).mono ?_
      rintro e wc ⟨rfl, hbc⟩
      have HXc := Aside0.mk (blk_below HXb.out hbc)
      have HNc := Aside0.mk (blk_below HNb.out hbc)
      have HBc := Aside0.mk (below_then HBb.out HBb.out.size hbc)
      have HDc := Aside0.mk (Kd.C_below HDb.out hbc)
      have HRc := Aside0.mk (Kd.C_below HRb.out hbc)
      have hcxc : wc.cell? ⟨w.heap.size, 0, none⟩ = some (.slice A L.length c) := (blk_cell HXc.out 0).trans rfl
      have hcnc : wc.cell? ⟨w8.heap.size, 0, none⟩ = some (.slice Av L.length cv) := (blk_cell HNc.out 0).trans rfl
      generalize PartG.part id parts = pp
      clear hbc HXb HNb HBb HDb HRb
      by_cases hz0 : L.length = 0
      · have hz1 : ((L.length : Int) == 0) = true := beq_iff_eq.2 (by omega)
        clear hz0
        go_wp2_with fail
        refine (same_calls wc L L A A c c HRc.out HRc.out).mono ?_
        rintro e wd ⟨⟨b, rfl, hb⟩, hbd⟩
        obtain rfl : b = true := hb.2 rfl
        have HBd := Aside0.mk (below_then HBc.out HBc.out.size hbd)
        clear hb hbd
        go_wp2_with fail
        go_ret
        exact ⟨rfl, HBd.out⟩
      · have hz1 : ((L.length : Int) == 0) = false := beq_eq_false_iff_ne.2 (by omega)
        have hne := nil_of HML.out (by omega) (HM1.out (by omega))
        have hsc := same_calls wc M1 L Av A cv c HDc.out HRc.out
        rw [HML.out] at hsc
        have HSC := Aside0.mk hsc
        have HNE := Aside0.mk hne
        clear hz0 hsc hne
        go_wp2_with fail
        refine HSC.out.mono ?_
        rintro e wd ⟨⟨b, rfl, hb⟩, hbd⟩
        obtain rfl : b = false := by
          cases b
          · rfl
          · exact absurd (hb.1 rfl) HNE.out
        have HXd := Aside0.mk (blk_below HXc.out hbd)
        have HBd := Aside0.mk (below_then HBc.out HBc.out.size hbd)
        have HRd := Aside0.mk (Kd.C_below HRc.out hbd)
        have hcxd : wd.cell? ⟨w.heap.size, 0, none⟩ = some (.slice A L.length c) := (blk_cell HXd.out 0).trans rfl
        clear hb hbd hcxc hcnc
        go_wp2_with fail
        refine (same_calls wd L L A A c c HRd.out HRd.out).mono ?_
        rintro e we ⟨⟨b, rfl, hb⟩, hbe⟩
        obtain rfl : b = true := hb.2 rfl
        have HBe := Aside0.mk (below_then HBd.out HBd.out.size hbe)
        clear hb hbe
        go_wp2_with fail
        go_ret
        exact ⟨rfl, HBe.out⟩
end Go.Proofs.Ytbeefbhoccdicaa.FindsLaw
