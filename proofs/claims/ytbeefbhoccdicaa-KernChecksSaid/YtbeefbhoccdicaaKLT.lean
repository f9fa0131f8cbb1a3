/- KernChecks: the law's own code, walked: a program of these. -/
import Derived.Test.YtbeefbhoccdicaaKCheckA
import Derived.Test.YtbeefbhoccdicaaAwakeK
import Derived.Test.YtbeefbhoccdicaaQKernx3
import Derived.Shelf.RegionOpen
namespace Go.Proofs.Ytbeefbhoccdicaa.KLT
open Go.RowKit Go.Shelf Go.Proofs.YtbeefbhoccdicaaW.PrintWords Go.Proofs.YtbeefbhoccdicaaW.PrintLast Go.Proofs.YtbeefbhoccdicaaW.PrintMore Go.Proofs.Ytbeefbhoccdicaa.QGraphReads Go.Proofs.Ytbeefbhoccdicaa.WireNum Go.Proofs.Ytbeefbhoccdicaa.PutG Go.Proofs.Ytbeefbhoccdicaa.FindG Go.Proofs.Ytbeefbhoccdicaa.AllG Go.Proofs.Ytbeefbhoccdicaa.CheckG Go.Proofs.Ytbeefbhoccdicaa.RefSpec Go.Proofs.Ytbeefbhoccdicaa.RefCheck Go.Proofs.Ytbeefbhoccdicaa.SourceK Go.Proofs.Ytbeefbhoccdicaa.KCheck Go.Proofs.Ytbeefbhoccdicaa.KCheckS Go.Proofs.Ytbeefbhoccdicaa.RefK Go.Proofs.Ytbeefbhoccdicaa.KCheckA
set_option linter.unusedVariables false
set_option linter.unusedSimpArgs false

/-- The first k places, and these. -/
def mk (k : Nat) (more : List Nat) : Array Bool := ((List.range 63).map fun i => decide (i < k) || more.contains i).toArray
def T12 : Bool × List (List Nat × List Nat) := (true, [([], []), ([0, 0], [0]), ([1], [1]), ([1], [1]), ([1], [1]), ([2, 3, 4, 1, 1], [1, 2, 3, 4]), ([1], [1]), ([5, 6, 1], [1, 5, 6]), ([1, 7], [1, 7]), ([8, 5], [8]), ([9], [9]), ([10, 9, 9], [9, 10]), ([9], [9]), ([11, 12, 9], [9, 11, 12]), ([9, 13], [9, 13]), ([14, 11], [14]), ([15], [15]), ([16, 15, 15], [15, 16]), ([15], [15]), ([18, 17, 15], [15, 18]), ([17, 19, 15], [15, 17, 19]), ([15, 20], [15, 20]), ([21, 19], [21]), ([22], [22]), ([23, 22, 22], [22, 23]), ([24, 22], [22, 24]), ([22], [22]), ([26, 22], [22, 26]), ([27, 22], [22, 27]), ([25, 28, 22], [22, 25, 28]), ([22, 29], [22, 29]), ([30, 24], [30]), ([31], [31]), ([32, 31, 31], [31, 32]), ([33, 31], [31, 33]), ([31], [31]), ([35, 31], [31, 35]), ([36, 31], [31, 36]), ([37, 33, 31], [31, 37]), ([38], [38]), ([39, 38], [38, 39]), ([40, 38], [38, 40]), ([41, 38], [38, 41]), ([38, 42, 31], [31, 38, 42]), ([43, 38, 31], [31, 43]), ([44], [44]), ([45, 44], [44, 45]), ([46, 44], [44, 46]), ([47, 44], [44, 47]), ([44, 48, 31], [31, 44, 48]), ([34, 49, 31], [31, 34, 49]), ([31, 50], [31, 50]), ([51, 44], [51]), ([52], [52]), ([52], [52]), ([53, 54, 52, 52], [52, 53, 54]), ([52], [52]), ([56, 55, 52], [52, 56]), ([52], [52]), ([57, 58, 57, 52], [52, 57, 58]), ([55, 59, 52], [52, 55, 59]), ([52, 60], [52, 60]), ([61, 59, 0, 1, 2, 3, 4, 5, 6, 7, 8, 9, 10, 11, 12, 13, 14, 15, 16, 17, 18, 19, 20, 21, 22, 23, 24, 25, 26, 27, 28, 29, 30, 31, 32, 33, 34, 35, 36, 37, 38, 39, 40, 41, 42, 43, 44, 45, 46, 47, 48, 49, 50, 51, 52, 53, 54, 55, 56, 57, 58, 59, 60, 61], [61])])
def B12 : List Nat := [0, 1, 3, 3, 3, 31, 3, 127, 255, 511, 1023, 2047, 1023, 8191, 16383, 32767, 65535, 131071, 65535, 524287, 1048575, 2097151, 4194303, 8388607, 16777215, 33554431, 8388607, 75497471, 209715199, 536870911, 1073741823, 2147483647, 4294967295, 8589934591, 17179869183, 4294967295, 38654705663, 107374182399, 257698037759, 532575944703, 1082331758591, 2181843386367, 4380866641919, 8778913153023, 17575006175231, 35167192219647, 70351564308479, 140720308486143, 281457796841471, 562932773552127, 1125899906842623, 2251799813685247, 4503599627370495, 9007199254740991, 9007199254740991, 36028797018963967, 9007199254740991, 144115188075855871, 9007199254740991, 576460752303423487, 1152921504606846975, 2305843009213693951, 4611686018427387903]
theorem tab12 : rtab .any (opsOf Try.f10 12) = T12 := by kernel_rfl
theorem bits12 : waitsOk T12.2 B12 = true := by kernel_rfl
theorem bc {a b : List UInt8} : (a == b) = (b == a) := by
  by_cases h : a = b
  · rw [h]
  · rw [beq_eq_false_iff_ne.mpr h, beq_eq_false_iff_ne.mpr (Ne.symm h)]
theorem five_own (s : ByteArray) : ∃ F, cohortlaw07_five.f = some F ∧ F.length = 5 ∧ (F.any fun n => n.toList == s.toList) = ownB s := by
  refine ⟨_, rfl, rfl, ?_⟩
  unfold ownB
  simp only [List.any_cons, List.any_nil, Bool.or_false, ByteArray.toList_eq]
  rw [bc (a := [98, 102, 115]), bc (a := [115, 115, 115, 112]), bc (a := [100, 101, 103, 114, 101, 101]), bc (a := [112, 97, 103, 101, 114, 97, 110, 107]), bc (a := [99, 99])]
theorem any_snoc (F : List ByteArray) (s : ByteArray) (k : Nat) (h : k < F.length) : ((F.take (k + 1)).any fun n => n.toList == s.toList) = (((F.take k).any fun n => n.toList == s.toList) || ((rdOf ByteArray.empty F (k : Int)).toList == s.toList)) := by
  have hrd : rdOf ByteArray.empty F (k : Int) = F.getD k ByteArray.empty := by unfold rdOf; rw [Int.toNat_natCast]
  rw [hrd, take_one F k ByteArray.empty h, List.any_append, List.any_cons, List.any_nil, Bool.or_false]

set_option maxHeartbeats 16000000 in
set_option maxRecDepth 100000 in
theorem law_a_true (w : World) (s : ByteArray) (L : List S53) (A : Option Addr) (c : Nat) (p : List Int) (B : Option Addr) (cb : Nat) (hc : L.length ≤ c) (hr : Kd.C k53 w A L.length L) (hp : Kd.C (Kd.int .i64) w B p.length p) (hcb : p.length ≤ cb) (hE : ∀ v ∈ L, v.f2.length ≤ 8796093022208) (h0 : Checks L 0) (h1 : L.length ≤ 256) (hg : Grows L) (hlen : p.length ≠ 1) (hown : ownB s = true) :
    Calls Try.prog 10 #[.string s, .agg #[.slice A L.length c], .slice B p.length cb] w fun e w' => e = .returned (.bool true) ∧ Below w.heap.size w w' := by
  have hE' : ∀ v ∈ L, v.f2.length ≤ 9223372036854775806 := fun v hv => by have := hE v hv; omega
  obtain ⟨kc, r, hkc0, hck⟩ := ref_check L hE'
  obtain rfl := hck.one h0
  obtain ⟨kr0, hkr0⟩ := ref_ref L (by omega) hE
  obtain ⟨kb, hkb0⟩ := ref_bfs ⟨#[98, 102, 115]⟩ (by rw [ByteArray.toList_eq]) L h1 p
  obtain ⟨M, hM⟩ : ∃ M, L.map r59 = M := ⟨_, rfl⟩
  obtain ⟨ko, hko0⟩ := ref_own s ((own_iff s).1 hown) L h1 hE' p
  rw [hM] at hko0
  have hko := Aside0.mk hko0
  clear hko0
  rw [hM] at hkc0 hkr0 hkb0
  have hkc := Aside0.mk hkc0
  have hkr := Aside0.mk hkr0
  have hkb := Aside0.mk hkb0
  obtain ⟨cr, hcr0, hcr1⟩ := comb_same s
  have hcr := Aside0.mk hcr0
  have hcr2 := Aside0.mk hcr1
  have hob0 := known_own s
  rw [hown] at hob0
  have hob := Aside0.mk hob0
  obtain ⟨F, hF1, hF2, hF3⟩ := five_own s
  rw [hown] at hF3
  have HF1 := Aside0.mk hF1
  have HF3 := Aside0.mk hF3
  clear hkc0 hkr0 hkb0 hck hcr0 hcr1 hob0 hF1 hF3 hM
  have hlen1 : ((p.length : Int) == 1) = false := beq_eq_false_iff_ne.mpr (by omega)
  obtain ⟨bn, hbn0⟩ : ∃ bn, ((p.length : Int) == 0) = bn := ⟨_, rfl⟩
  have hbn : (noneR p == 0) = bn := by
    rw [← hbn0]
    unfold noneR
    by_cases h : p.length = 0
    · rw [if_pos h, h]
      rfl
    · rw [if_neg h, beq_eq_false_iff_ne.mpr (show ((p.length : Int)) ≠ 0 by omega)]
      rfl
  have hbt : (turnsR p == 0) = false := by
    unfold turnsR
    rw [if_neg hlen]
    rfl
  clear hlen
  have HX1 := Aside0.mk (blk_new w (.cells #[.slice A L.length c] 24))
  have HB1 := Aside0.mk (below_alloc (Below.refl w.heap.size w) (.cells #[.slice A L.length c] 24))
  have HR1 := Aside0.mk (Kd.C_alloc hr (.cells #[.slice A L.length c] 24))
  have HP1 := Aside0.mk (Kd.C_alloc hp (.cells #[.slice A L.length c] 24))
  clear hr hp
  go_enter Try.func10, Try.ntmps10
  go_wp2_with fail
  generalize w.alloc (.cells #[.slice A L.length c] 24) = w1 at HX1 HB1 HR1 HP1 ⊢
  refine (cohortlaw03_Ref.calls kr0 A c L M w1 HR1.out hc hkr.out).mono ?_
  rintro e w2 ⟨u2, rfl, hS2, hb2⟩
  obtain ⟨A2, c2, hA2, hl2, hC2⟩ := Kd.S_reads hS2
  subst hA2
  have HX2 := Aside0.mk (blk_below HX1.out hb2)
  have HR2 := Aside0.mk (Kd.C_below HR1.out hb2)
  have HP2 := Aside0.mk (Kd.C_below HP1.out hb2)
  have HB2 := Aside0.mk (below_then HB1.out HB1.out.size hb2)
  clear hS2 hb2 HX1 HB1 HR1 HP1
  go_wp2_with fail
  refine (cohortref03_Check.calls kc A2 c2 M 0 w2 hC2 hl2 hkc.out).mono ?_
  rintro e w3 ⟨rfl, hd⟩
  have HX3 := Aside0.mk (blk_below HX2.out hd.below)
  have HR3 := Aside0.mk (Kd.C_below HR2.out hd.below)
  have HP3 := Aside0.mk (Kd.C_below HP2.out hd.below)
  have HB3 := Aside0.mk (below_then HB2.out HB2.out.size hd.below)
  clear hd hC2 HX2 HB2 HR2 HP2
  go_wp2_with fail
  refine (cohortlaw07_five.calls F w3 HF1.out).mono ?_
  rintro e w4 ⟨v16, rfl, hv16, hb4⟩
  have HX4 := Aside0.mk (blk_below HX3.out hb4)
  have HR4 := Aside0.mk (Kd.C_below HR3.out hb4)
  have HP4 := Aside0.mk (Kd.C_below HP3.out hb4)
  have HB4 := Aside0.mk (below_then HB3.out HB3.out.size hb4)
  obtain ⟨A16, d16, hA16, _, hC16⟩ := Kd.R_reads hv16
  subst hA16
  have HC16 := Aside0.mk hC16
  clear hv16 hb4 hC16 HX3 HB3 HR3 HP3
  go_wp2_with fail
  go_loopw [7, 18] (fun v7 v18 wr => ∃ k : Nat, v18 = .int .i64 (k : Int) ∧ k ≤ F.length ∧ v7 = .bool ((F.take k).any fun n => n.toList == s.toList) ∧ Aside0 (wr = w4)) (fun _ v18 _ => (F.length - (intOf v18)).toNat)
  case atStart => exact ⟨0, rfl, Nat.zero_le _, rfl, ⟨rfl⟩⟩
  case round =>
    obtain ⟨k, rfl, hk, rfl, hw⟩ := hrel
    obtain rfl := hw.out
    rcases Nat.lt_or_ge k F.length with hlt | hge
    · have hlt5 : ((k : Int) < (F.length : Int)) = True := eq_true (by omega)
      obtain ⟨adf, hAf, hy⟩ := Kd.at_string HC16.out (k : Int) (by omega) (by omega)
      subst hAf
      rw [Int.toNat_natCast] at hy
      have hsn : ((F.take (k + 1)).any fun n => n.toList == s.toList) = (((F.take k).any fun n => n.toList == s.toList) || ((rdOf ByteArray.empty F (k : Int)).toList == s.toList)) := any_snoc F s k hlt
      have HSN := Aside0.mk hsn
      clear hsn
      generalize rdOf ByteArray.empty F (k : Int) = sk at hy HSN
      generalize ((F.take k).any fun n => n.toList == s.toList) = bo at HSN ⊢
      cases bo
      · go_wp2_with fail
        go_roundw
        case rel => exact ⟨k + 1, by go_num, by omega, by rw [HSN.out]; rfl, ⟨by trivial⟩⟩
        case measure => simp [intOf]; omega
      · go_wp2_with fail
        go_roundw
        case rel => exact ⟨k + 1, by go_num, by omega, by rw [HSN.out]; rfl, ⟨by trivial⟩⟩
        case measure => simp [intOf]; omega
    · have hk1 : k = F.length := by omega
      subst hk1
      have hlt5 : ((F.length : Int) < (F.length : Int)) = False := eq_false (by omega)
      rw [List.take_length, HF3.out]
      have HXf := HX4
      have HBf := HB4
      have HRf := HR4
      have HPf := HP4
      clear HX4 HB4 HR4 HP4 HC16 hw
      obtain ⟨wf, hwf⟩ : ∃ wf, wr = wf := ⟨_, rfl⟩
      subst hwf
      have hcf : wr.cell? ⟨w.heap.size, 0, none⟩ = some (.slice A L.length c) := (blk_cell HXf.out 0).trans rfl
      go_wp2_with fail
      clear hcf
      refine (cohortlaw03_Ref.calls kr0 A c L M wr HRf.out hc hkr.out).mono ?_
      rintro e wg ⟨ug, rfl, hSg, hbg⟩
      obtain ⟨Ag, cg, hAg, hlg, hCg⟩ := Kd.S_reads hSg
      subst hAg
      have HXg := Aside0.mk (blk_below HXf.out hbg)
      have HRg := Aside0.mk (Kd.C_below HRf.out hbg)
      have HPg := Aside0.mk (Kd.C_below HPf.out hbg)
      have HBg := Aside0.mk (below_then HBf.out HBf.out.size hbg)
      clear hSg hbg HXf HRf HPf HBf
      go_wp2_with fail
      refine (cohortref07_Check.calls ko s Ag cg M B cb p (kr s L p) wg hCg hlg HPg.out hcb hko.out).mono ?_
      rintro e wh ⟨rfl, hbh⟩
      have HXh := Aside0.mk (blk_below HXg.out hbh)
      have HRh := Aside0.mk (Kd.C_below HRg.out hbh)
      have HPh := Aside0.mk (Kd.C_below HPg.out hbh)
      have HBh := Aside0.mk (below_then HBg.out HBg.out.size hbh)
      clear hbh hCg HXg HRg HPg HBg
      go_wp2_with fail
      have HX0 := Aside0.mk (blk_drew HXh.out)
      have HR0 := Aside0.mk (Kd.C_drew HRh.out)
      have HP0 := Aside0.mk (Kd.C_drew HPh.out)
      have HB0 := Aside0.mk (below_drew1 HBh.out)
      refine start_ (n := 63) (S := fun w' => w'.cell? ⟨w.heap.size, 0, none⟩ = some (.slice A L.length c)) (ds := []) (mk 0 []) (by kernel_rfl) rfl (by kernel_rfl) ((blk_cell HX0.out 0).trans rfl) (fun hHeld => ?_)
      refine with_tabW tab12 bits12 (fun HT_ HW_ => ?_)
      clear HXh HRh HPh HBh
      generalize wh.drew = w0 at HX0 HR0 HP0 HB0 hHeld ⊢
      refine one_ (i := 0) (N := some 35) (mk 1 []) rfl rfl (one_of HT_.out (by kernel_rfl)) (by decide) (fun K hK => ?_)
      refine goes_ Try.func44 (by kernel_rfl) rfl #[] (by rfl) rfl rfl (by simp) ?_
      refine (AwakeK.awake_calls w0).mono ?_
      rintro e w1 ⟨rfl, hb⟩
      refine ⟨_, rfl, ?_⟩
      have HX1 := Aside0.mk (blk_below HX0.out hb)
      have HR1 := Aside0.mk (Kd.C_below HR0.out hb)
      have HP1 := Aside0.mk (Kd.C_below HP0.out hb)
      have HB1 := Aside0.mk (below_then HB0.out HB0.out.size hb)
      clear HX0 HR0 HB0 hb
      refine hK.out _ _ ((blk_cell HX1.out 0).trans rfl) (fun hHeld => ?_)
      clear hK K
      refine norm_ (a' := ?_) ?_ ?_
      rotate_left
      · show Act.put _ (some 35) _ = _
        simp only [Act.put, List.setIfInBounds_toArray, List.set_cons_zero, List.set_cons_succ, i64_w, i32_w]
        rfl
      refine pure_ (i := 1) (N := some 36) (v := ?_) (a' := ?_) (mk 2 []) rfl rfl (any_of HT_.out (by kernel_rfl)) (fun _ _ _ h => h) (Or.inl ⟨by rfl, ?_⟩) ?_ ?_
      rotate_left
      · intro w'
        go_simp
        with_reducible rfl
      rotate_left
      · simp only [Act.put, List.setIfInBounds_toArray, List.set_cons_zero, List.set_cons_succ, i64_w, i32_w]
        rfl
      refine pure_ (i := 2) (N := some 37) (v := ?_) (a' := ?_) (mk 3 []) rfl rfl (any_of HT_.out (by kernel_rfl)) (fun _ _ _ h => h) (Or.inl ⟨by rfl, ?_⟩) ?_ ?_
      rotate_left
      · intro w'
        go_simp
        with_reducible rfl
      rotate_left
      · simp only [Act.put, List.setIfInBounds_toArray, List.set_cons_zero, List.set_cons_succ, i64_w, i32_w]
        rfl
      refine take_ (i := 3) (N := some 38) (v := ?_) (a' := ?_) (mk 4 []) rfl rfl (take_ofW HT_.out HW_.out (by kernel_rfl)) (fun _ _ _ h => h) (Or.inl ⟨by rfl, ?_⟩) hHeld ?_ ?_
      rotate_left
      · intro w' s0
        go_simp
        with_reducible rfl
      rotate_left
      · simp only [Act.put, List.setIfInBounds_toArray, List.set_cons_zero, List.set_cons_succ, i64_w, i32_w]
        rfl
      refine pure_ (i := 4) (N := some 39) (v := ?_) (a' := ?_) (mk 5 []) rfl rfl (any_of HT_.out (by kernel_rfl)) (fun _ _ _ h => h) (Or.inl ⟨by rfl, ?_⟩) ?_ ?_
      rotate_left
      · intro w'
        go_simp
        with_reducible rfl
      rotate_left
      · simp only [Act.put, List.setIfInBounds_toArray, List.set_cons_zero, List.set_cons_succ, i64_w, i32_w]
        rfl
      refine pure_ (i := 6) (N := some 41) (v := ?_) (a' := ?_) (mk 5 [6]) rfl rfl (any_of HT_.out (by kernel_rfl)) (fun _ _ _ h => h) (Or.inl ⟨by rfl, ?_⟩) ?_ ?_
      rotate_left
      · intro w'
        go_simp
        with_reducible rfl
      rotate_left
      · simp only [Act.put, List.setIfInBounds_toArray, List.set_cons_zero, List.set_cons_succ, i64_w, i32_w]
        rfl
      refine one_ (i := 5) (N := some 40) (mk 7 []) rfl rfl (one_of HT_.out (by kernel_rfl)) (by decide) (fun K hK => ?_)
      refine goes_ Try.func52 (by kernel_rfl) rfl #[.string s, .agg #[.slice A L.length c], .slice B p.length cb] (by rfl) rfl rfl (by simp; first | done | exact ⟨rfl, rfl, rfl⟩ | rfl) ?_
      refine (kcheck_calls w1 s L A c p B cb HR1.out HP1.out hcb hg h1).mono ?_
      rintro e w2 ⟨rfl, hb⟩
      refine ⟨_, rfl, ?_⟩
      have HX2 := Aside0.mk (blk_below HX1.out hb)
      have HR2 := Aside0.mk (Kd.C_below HR1.out hb)
      have HP2 := Aside0.mk (Kd.C_below HP1.out hb)
      have HB2 := Aside0.mk (below_then HB1.out HB1.out.size hb)
      clear HX1 HR1 HB1 hb
      refine hK.out _ _ ((blk_cell HX2.out 0).trans rfl) (fun hHeld => ?_)
      clear hK K
      refine norm_ (a' := ?_) ?_ ?_
      rotate_left
      · show Act.put _ (some 40) _ = _
        simp only [Act.put, List.setIfInBounds_toArray, List.set_cons_zero, List.set_cons_succ, i64_w, i32_w]
        rfl
      refine pure_ (i := 7) (N := some 42) (v := ?_) (a' := ?_) (mk 8 []) rfl rfl (any_of HT_.out (by kernel_rfl)) (fun _ _ _ h => h) (Or.inl ⟨by rfl, ?_⟩) ?_ ?_
      rotate_left
      · intro w'
        go_simp
        with_reducible rfl
      rotate_left
      · simp only [Act.put, List.setIfInBounds_toArray, List.set_cons_zero, List.set_cons_succ, i64_w, i32_w]
        rfl
      refine pure_ (i := 8) (N := some 43) (v := ?_) (a' := ?_) (mk 9 []) rfl rfl (any_of HT_.out (by kernel_rfl)) (fun _ _ _ h => h) (Or.inl ⟨by rfl, ?_⟩) ?_ ?_
      rotate_left
      · intro w'
        go_simp
        with_reducible rfl
      rotate_left
      · simp only [Act.put, List.setIfInBounds_toArray, List.set_cons_zero, List.set_cons_succ, i64_w, i32_w]
        rfl
      refine pure_ (i := 9) (N := some 44) (v := ?_) (a' := ?_) (mk 10 []) rfl rfl (any_of HT_.out (by kernel_rfl)) (fun _ _ _ h => h) (Or.inl ⟨by rfl, ?_⟩) ?_ ?_
      rotate_left
      · intro w'
        go_simp
        with_reducible rfl
      rotate_left
      · simp only [Act.put, List.setIfInBounds_toArray, List.set_cons_zero, List.set_cons_succ, i64_w, i32_w]
        rfl
      refine pure_ (i := 10) (N := some 45) (v := ?_) (a' := ?_) (mk 11 []) rfl rfl (any_of HT_.out (by kernel_rfl)) (fun _ _ _ h => h) (Or.inl ⟨by rfl, ?_⟩) ?_ ?_
      rotate_left
      · intro w'
        go_simp
        with_reducible rfl
      rotate_left
      · simp only [Act.put, List.setIfInBounds_toArray, List.set_cons_zero, List.set_cons_succ, i64_w, i32_w]
        rfl
      refine pure_ (i := 12) (N := some 47) (v := ?_) (a' := ?_) (mk 11 [12]) rfl rfl (any_of HT_.out (by kernel_rfl)) (fun _ _ _ h => h) (Or.inl ⟨by rfl, ?_⟩) ?_ ?_
      rotate_left
      · intro w'
        go_simp
        with_reducible rfl
      rotate_left
      · simp only [Act.put, List.setIfInBounds_toArray, List.set_cons_zero, List.set_cons_succ, i64_w, i32_w]
        rfl
      refine one_ (i := 11) (N := some 46) (mk 13 []) rfl rfl (one_of HT_.out (by kernel_rfl)) (by decide) (fun K hK => ?_)
      refine goes_ Try.func53 (by kernel_rfl) rfl #[.string s] (by rfl) rfl rfl (by simp; first | done | rfl) ?_
      refine (kern_Known.calls s true w2 hob.out).mono ?_
      rintro e w3 ⟨rfl, hb⟩
      refine ⟨_, rfl, ?_⟩
      have HX3 := Aside0.mk (blk_below HX2.out hb.below)
      have HR3 := Aside0.mk (Kd.C_below HR2.out hb.below)
      have HP3 := Aside0.mk (Kd.C_below HP2.out hb.below)
      have HB3 := Aside0.mk (below_then HB2.out HB2.out.size hb.below)
      clear HX2 HR2 HB2 hb
      refine hK.out _ _ ((blk_cell HX3.out 0).trans rfl) (fun hHeld => ?_)
      clear hK K
      refine norm_ (a' := ?_) ?_ ?_
      rotate_left
      · show Act.put _ (some 46) _ = _
        simp only [Act.put, List.setIfInBounds_toArray, List.set_cons_zero, List.set_cons_succ, i64_w, i32_w]
        rfl
      refine pure_ (i := 13) (N := some 48) (v := ?_) (a' := ?_) (mk 14 []) rfl rfl (any_of HT_.out (by kernel_rfl)) (fun _ _ _ h => h) (Or.inl ⟨by rfl, ?_⟩) ?_ ?_
      rotate_left
      · intro w'
        go_simp
        with_reducible rfl
      rotate_left
      · simp only [Act.put, List.setIfInBounds_toArray, List.set_cons_zero, List.set_cons_succ, i64_w, i32_w]
        rfl
      refine pure_ (i := 14) (N := some 49) (v := ?_) (a' := ?_) (mk 15 []) rfl rfl (any_of HT_.out (by kernel_rfl)) (fun _ _ _ h => h) (Or.inl ⟨by rfl, ?_⟩) ?_ ?_
      rotate_left
      · intro w'
        go_simp
        with_reducible rfl
      rotate_left
      · simp only [Act.put, List.setIfInBounds_toArray, List.set_cons_zero, List.set_cons_succ, i64_w, i32_w]
        rfl
      refine pure_ (i := 15) (N := some 50) (v := ?_) (a' := ?_) (mk 16 []) rfl rfl (any_of HT_.out (by kernel_rfl)) (fun _ _ _ h => h) (Or.inl ⟨by rfl, ?_⟩) ?_ ?_
      rotate_left
      · intro w'
        go_simp
        with_reducible rfl
      rotate_left
      · simp only [Act.put, List.setIfInBounds_toArray, List.set_cons_zero, List.set_cons_succ, i64_w, i32_w]
        rfl
      refine pure_ (i := 16) (N := some 51) (v := ?_) (a' := ?_) (mk 17 []) rfl rfl (any_of HT_.out (by kernel_rfl)) (fun _ _ _ h => h) (Or.inl ⟨by rfl, ?_⟩) ?_ ?_
      rotate_left
      · intro w'
        go_simp
        with_reducible rfl
      rotate_left
      · simp only [Act.put, List.setIfInBounds_toArray, List.set_cons_zero, List.set_cons_succ, i64_w, i32_w]
        rfl
      refine pure_ (i := 18) (N := some 53) (v := ?_) (a' := ?_) (mk 17 [18]) rfl rfl (any_of HT_.out (by kernel_rfl)) (fun _ _ _ h => h) (Or.inl ⟨by rfl, ?_⟩) ?_ ?_
      rotate_left
      · intro w'
        go_simp
        with_reducible rfl
      rotate_left
      · simp only [Act.put, List.setIfInBounds_toArray, List.set_cons_zero, List.set_cons_succ, i64_w, i32_w]
        rfl
      refine one_ (i := 17) (N := some 52) (mk 19 []) rfl rfl (one_of HT_.out (by kernel_rfl)) (by decide) (fun K hK => ?_)
      refine goes_ Try.func54 (by kernel_rfl) rfl #[.string s] (by rfl) rfl rfl (by simp; first | done | rfl) ?_
      refine (kern_Combiner.calls 2 s cr w3 hcr.out).mono ?_
      rintro e w4 ⟨rfl, hb⟩
      refine ⟨_, rfl, ?_⟩
      have HX4 := Aside0.mk (blk_below HX3.out hb.below)
      have HR4 := Aside0.mk (Kd.C_below HR3.out hb.below)
      have HP4 := Aside0.mk (Kd.C_below HP3.out hb.below)
      have HB4 := Aside0.mk (below_then HB3.out HB3.out.size hb.below)
      clear HX3 HR3 HB3 hb
      refine hK.out _ _ ((blk_cell HX4.out 0).trans rfl) (fun hHeld => ?_)
      clear hK K
      refine norm_ (a' := ?_) ?_ ?_
      rotate_left
      · show Act.put _ (some 52) _ = _
        simp only [Act.put, List.setIfInBounds_toArray, List.set_cons_zero, List.set_cons_succ, i64_w, i32_w]
        rfl
      refine one_ (i := 19) (N := some 54) (mk 20 []) rfl rfl (one_of HT_.out (by kernel_rfl)) (by decide) (fun K hK => ?_)
      refine goes_ Try.func55 (by kernel_rfl) rfl #[.string s] (by rfl) rfl rfl (by simp; first | done | rfl) ?_
      refine (cohortref07_Combiner.calls 2 s cr w4 hcr2.out).mono ?_
      rintro e w5 ⟨rfl, hb⟩
      refine ⟨_, rfl, ?_⟩
      have HX5 := Aside0.mk (blk_below HX4.out hb.below)
      have HR5 := Aside0.mk (Kd.C_below HR4.out hb.below)
      have HP5 := Aside0.mk (Kd.C_below HP4.out hb.below)
      have HB5 := Aside0.mk (below_then HB4.out HB4.out.size hb.below)
      clear HX4 HR4 HB4 hb
      refine hK.out _ _ ((blk_cell HX5.out 0).trans rfl) (fun hHeld => ?_)
      clear hK K
      refine norm_ (a' := ?_) ?_ ?_
      rotate_left
      · show Act.put _ (some 54) _ = _
        simp only [Act.put, List.setIfInBounds_toArray, List.set_cons_zero, List.set_cons_succ, i64_w, i32_w]
        rfl
      refine pure_ (i := 20) (N := some 55) (v := ?_) (a' := ?_) (mk 21 []) rfl rfl (any_of HT_.out (by kernel_rfl)) (fun _ _ _ h => h) (Or.inl ⟨by rfl, ?_⟩) ?_ ?_
      rotate_left
      · intro w'
        go_simp
        with_reducible rfl
      rotate_left
      · simp only [Act.put, List.setIfInBounds_toArray, List.set_cons_zero, List.set_cons_succ, i64_w, i32_w]
        rfl
      refine pure_ (i := 21) (N := some 56) (v := ?_) (a' := ?_) (mk 22 []) rfl rfl (any_of HT_.out (by kernel_rfl)) (fun _ _ _ h => h) (Or.inl ⟨by rfl, ?_⟩) ?_ ?_
      rotate_left
      · intro w'
        go_simp
        with_reducible rfl
      rotate_left
      · simp only [Act.put, List.setIfInBounds_toArray, List.set_cons_zero, List.set_cons_succ, i64_w, i32_w]
        rfl
      refine pure_ (i := 22) (N := some 57) (v := ?_) (a' := ?_) (mk 23 []) rfl rfl (any_of HT_.out (by kernel_rfl)) (fun _ _ _ h => h) (Or.inl ⟨by rfl, ?_⟩) ?_ ?_
      rotate_left
      · intro w'
        go_simp
        with_reducible rfl
      rotate_left
      · simp only [Act.put, List.setIfInBounds_toArray, List.set_cons_zero, List.set_cons_succ, i64_w, i32_w]
        rfl
      refine pure_ (i := 23) (N := some 58) (v := ?_) (a' := ?_) (mk 24 []) rfl rfl (any_of HT_.out (by kernel_rfl)) (fun _ _ _ h => h) (Or.inl ⟨by rfl, ?_⟩) ?_ ?_
      rotate_left
      · intro w'
        go_simp
        with_reducible rfl
      rotate_left
      · simp only [Act.put, List.setIfInBounds_toArray, List.set_cons_zero, List.set_cons_succ, i64_w, i32_w]
        rfl
      refine pure_ (i := 26) (N := some 61) (v := ?_) (a' := ?_) (mk 24 [26]) rfl rfl (any_of HT_.out (by kernel_rfl)) (fun _ _ _ h => h) (Or.inl ⟨by rfl, ?_⟩) ?_ ?_
      rotate_left
      · intro w'
        go_simp
        with_reducible rfl
      rotate_left
      · simp only [Act.put, List.setIfInBounds_toArray, List.set_cons_zero, List.set_cons_succ, i64_w, i32_w]
        rfl
      refine pure_ (i := 27) (N := some 62) (v := ?_) (a' := ?_) (mk 24 [26, 27]) rfl rfl (any_of HT_.out (by kernel_rfl)) (fun _ _ _ h => h) (Or.inl ⟨by rfl, ?_⟩) ?_ ?_
      rotate_left
      · intro w'
        go_simp
        with_reducible rfl
      rotate_left
      · simp only [Act.put, List.setIfInBounds_toArray, List.set_cons_zero, List.set_cons_succ, i64_w, i32_w]
        rfl
      refine pure_ (i := 28) (N := some 63) (v := ?_) (a' := ?_) (mk 24 [26, 27, 28]) rfl rfl (any_of HT_.out (by kernel_rfl)) (fun _ _ _ h => h) (Or.inl ⟨by rfl, ?_⟩) ?_ ?_
      rotate_left
      · intro w'
        go_simp
        with_reducible rfl
      rotate_left
      · simp only [Act.put, List.setIfInBounds_toArray, List.set_cons_zero, List.set_cons_succ, i64_w, i32_w]
        rfl
      refine one_ (i := 24) (N := some 59) (mk 25 [26, 27, 28]) rfl rfl (one_of HT_.out (by kernel_rfl)) (by decide) (fun K hK => ?_)
      refine goes_ Try.func56 (by kernel_rfl) rfl #[.slice B p.length cb] (by rfl) rfl rfl (by simp; first | done | rfl) ?_
      refine (kern_None.calls B cb p (noneR p) w5 HP5.out hcb (none_f p)).mono ?_
      rintro e w6 ⟨rfl, hb⟩
      refine ⟨_, rfl, ?_⟩
      have HX6 := Aside0.mk (blk_below HX5.out hb.below)
      have HR6 := Aside0.mk (Kd.C_below HR5.out hb.below)
      have HP6 := Aside0.mk (Kd.C_below HP5.out hb.below)
      have HB6 := Aside0.mk (below_then HB5.out HB5.out.size hb.below)
      clear HX5 HR5 HB5 hb
      refine hK.out _ _ ((blk_cell HX6.out 0).trans rfl) (fun hHeld => ?_)
      clear hK K
      refine norm_ (a' := ?_) ?_ ?_
      rotate_left
      · show Act.put _ (some 59) _ = _
        simp only [Act.put, List.setIfInBounds_toArray, List.set_cons_zero, List.set_cons_succ, i64_w, i32_w]
        rfl
      refine pure_ (i := 25) (N := some 60) (v := ?_) (a' := ?_) (mk 29 []) rfl rfl (any_of HT_.out (by kernel_rfl)) (fun _ _ _ h => h) (Or.inl ⟨by rfl, ?_⟩) ?_ ?_
      rotate_left
      · intro w'
        go_simp
        with_reducible rfl
      rotate_left
      · simp only [Act.put, List.setIfInBounds_toArray, List.set_cons_zero, List.set_cons_succ, i64_w, i32_w]
        rfl
      refine pure_ (i := 29) (N := some 64) (v := ?_) (a' := ?_) (mk 30 []) rfl rfl (any_of HT_.out (by kernel_rfl)) (fun _ _ _ h => h) (Or.inl ⟨by rfl, ?_⟩) ?_ ?_
      rotate_left
      · intro w'
        go_simp
        with_reducible rfl
      rotate_left
      · simp only [Act.put, List.setIfInBounds_toArray, List.set_cons_zero, List.set_cons_succ, i64_w, i32_w]
        rfl
      refine pure_ (i := 30) (N := some 65) (v := ?_) (a' := ?_) (mk 31 []) rfl rfl (any_of HT_.out (by kernel_rfl)) (fun _ _ _ h => h) (Or.inl ⟨by rfl, ?_⟩) ?_ ?_
      rotate_left
      · intro w'
        go_simp
        with_reducible rfl
      rotate_left
      · simp only [Act.put, List.setIfInBounds_toArray, List.set_cons_zero, List.set_cons_succ, i64_w, i32_w]
        rfl
      refine pure_ (i := 31) (N := some 66) (v := ?_) (a' := ?_) (mk 32 []) rfl rfl (any_of HT_.out (by kernel_rfl)) (fun _ _ _ h => h) (Or.inl ⟨by rfl, ?_⟩) ?_ ?_
      rotate_left
      · intro w'
        go_simp
        with_reducible rfl
      rotate_left
      · simp only [Act.put, List.setIfInBounds_toArray, List.set_cons_zero, List.set_cons_succ, i64_w, i32_w]
        rfl
      refine pure_ (i := 32) (N := some 67) (v := ?_) (a' := ?_) (mk 33 []) rfl rfl (any_of HT_.out (by kernel_rfl)) (fun _ _ _ h => h) (Or.inl ⟨by rfl, ?_⟩) ?_ ?_
      rotate_left
      · intro w'
        go_simp
        with_reducible rfl
      rotate_left
      · simp only [Act.put, List.setIfInBounds_toArray, List.set_cons_zero, List.set_cons_succ, i64_w, i32_w]
        rfl
      refine pure_ (i := 35) (N := some 70) (v := ?_) (a' := ?_) (mk 33 [35]) rfl rfl (any_of HT_.out (by kernel_rfl)) (fun _ _ _ h => h) (Or.inl ⟨by rfl, ?_⟩) ?_ ?_
      rotate_left
      · intro w'
        go_simp
        with_reducible rfl
      rotate_left
      · simp only [Act.put, List.setIfInBounds_toArray, List.set_cons_zero, List.set_cons_succ, i64_w, i32_w]
        rfl
      refine pure_ (i := 36) (N := some 71) (v := ?_) (a' := ?_) (mk 33 [35, 36]) rfl rfl (any_of HT_.out (by kernel_rfl)) (fun _ _ _ h => h) (Or.inl ⟨by rfl, ?_⟩) ?_ ?_
      rotate_left
      · intro w'
        go_simp
        with_reducible rfl
      rotate_left
      · simp only [Act.put, List.setIfInBounds_toArray, List.set_cons_zero, List.set_cons_succ, i64_w, i32_w]
        rfl
      refine pure_ (i := 37) (N := some 72) (v := ?_) (a' := ?_) (mk 33 [35, 36, 37]) rfl rfl (any_of HT_.out (by kernel_rfl)) (fun _ _ _ h => h) (Or.inl ⟨by rfl, ?_⟩) ?_ ?_
      rotate_left
      · intro w'
        go_simp
        with_reducible rfl
      rotate_left
      · simp only [Act.put, List.setIfInBounds_toArray, List.set_cons_zero, List.set_cons_succ, i64_w, i32_w]
        rfl
      refine one_ (i := 33) (N := some 68) (mk 34 [35, 36, 37]) rfl rfl (one_of HT_.out (by kernel_rfl)) (by decide) (fun K hK => ?_)
      refine goes_ Try.func57 (by kernel_rfl) rfl #[.slice B p.length cb] (by rfl) rfl rfl (by simp; first | done | rfl) ?_
      refine (kern_Turns.calls B cb p (turnsR p) w6 HP6.out hcb (turns_f p)).mono ?_
      rintro e w7 ⟨rfl, hb⟩
      refine ⟨_, rfl, ?_⟩
      have HX7 := Aside0.mk (blk_below HX6.out hb.below)
      have HR7 := Aside0.mk (Kd.C_below HR6.out hb.below)
      have HP7 := Aside0.mk (Kd.C_below HP6.out hb.below)
      have HB7 := Aside0.mk (below_then HB6.out HB6.out.size hb.below)
      clear HX6 HR6 HB6 hb
      refine hK.out _ _ ((blk_cell HX7.out 0).trans rfl) (fun hHeld => ?_)
      clear hK K
      refine norm_ (a' := ?_) ?_ ?_
      rotate_left
      · show Act.put _ (some 68) _ = _
        simp only [Act.put, List.setIfInBounds_toArray, List.set_cons_zero, List.set_cons_succ, i64_w, i32_w]
        rfl
      refine pure_ (i := 34) (N := some 69) (v := ?_) (a' := ?_) (mk 38 []) rfl rfl (any_of HT_.out (by kernel_rfl)) (fun _ _ _ h => h) (Or.inl ⟨by rfl, ?_⟩) ?_ ?_
      rotate_left
      · intro w'
        go_simp
        with_reducible rfl
      rotate_left
      · simp only [Act.put, List.setIfInBounds_toArray, List.set_cons_zero, List.set_cons_succ, i64_w, i32_w]
        rfl
      refine pure_ (i := 38) (N := some 73) (v := ?_) (a' := ?_) (mk 39 []) rfl rfl (any_of HT_.out (by kernel_rfl)) (fun _ _ _ h => h) (Or.inl ⟨by rfl, ?_⟩) ?_ ?_
      rotate_left
      · intro w'
        go_simp
        with_reducible rfl
      rotate_left
      · simp only [Act.put, List.setIfInBounds_toArray, List.set_cons_zero, List.set_cons_succ, i64_w, i32_w]
        rfl
      refine pure_ (i := 39) (N := some 74) (v := undef) (a' := ?_) (mk 40 []) rfl rfl (any_of HT_.out (by kernel_rfl)) (fun _ _ _ h => h) (Or.inr ⟨by rfl, rfl⟩) ?_ ?_
      rotate_left
      · simp only [Act.put, List.setIfInBounds_toArray, List.set_cons_zero, List.set_cons_succ, i64_w, i32_w]
        rfl
      refine pure_ (i := 40) (N := some 75) (v := undef) (a' := ?_) (mk 41 []) rfl rfl (any_of HT_.out (by kernel_rfl)) (fun _ _ _ h => h) (Or.inr ⟨by rfl, rfl⟩) ?_ ?_
      rotate_left
      · simp only [Act.put, List.setIfInBounds_toArray, List.set_cons_zero, List.set_cons_succ, i64_w, i32_w]
        rfl
      refine pure_ (i := 41) (N := some 76) (v := undef) (a' := ?_) (mk 42 []) rfl rfl (any_of HT_.out (by kernel_rfl)) (fun _ _ _ h => h) (Or.inr ⟨by rfl, rfl⟩) ?_ ?_
      rotate_left
      · simp only [Act.put, List.setIfInBounds_toArray, List.set_cons_zero, List.set_cons_succ, i64_w, i32_w]
        rfl
      refine pure_ (i := 42) (N := some 77) (v := undef) (a' := ?_) (mk 43 []) rfl rfl (any_of HT_.out (by kernel_rfl)) (fun _ _ _ h => h) (Or.inr ⟨by rfl, rfl⟩) ?_ ?_
      rotate_left
      · simp only [Act.put, List.setIfInBounds_toArray, List.set_cons_zero, List.set_cons_succ, i64_w, i32_w]
        rfl
      refine pure_ (i := 43) (N := some 78) (v := ?_) (a' := ?_) (mk 44 []) rfl rfl (any_of HT_.out (by kernel_rfl)) (fun _ _ _ h => h) (Or.inl ⟨by rfl, ?_⟩) ?_ ?_
      rotate_left
      · intro w'
        go_simp
        with_reducible rfl
      rotate_left
      · simp only [Act.put, List.setIfInBounds_toArray, List.set_cons_zero, List.set_cons_succ, i64_w, i32_w]
        rfl
      refine pure_ (i := 44) (N := some 79) (v := ?_) (a' := ?_) (mk 45 []) rfl rfl (any_of HT_.out (by kernel_rfl)) (fun _ _ _ h => h) (Or.inl ⟨by rfl, ?_⟩) ?_ ?_
      rotate_left
      · intro w'
        go_simp
        with_reducible rfl
      rotate_left
      · simp only [Act.put, List.setIfInBounds_toArray, List.set_cons_zero, List.set_cons_succ, i64_w, i32_w]
        rfl
      refine pure_ (i := 45) (N := some 80) (v := undef) (a' := ?_) (mk 46 []) rfl rfl (any_of HT_.out (by kernel_rfl)) (fun _ _ _ h => h) (Or.inr ⟨by rfl, rfl⟩) ?_ ?_
      rotate_left
      · simp only [Act.put, List.setIfInBounds_toArray, List.set_cons_zero, List.set_cons_succ, i64_w, i32_w]
        rfl
      refine pure_ (i := 46) (N := some 81) (v := undef) (a' := ?_) (mk 47 []) rfl rfl (any_of HT_.out (by kernel_rfl)) (fun _ _ _ h => h) (Or.inr ⟨by rfl, rfl⟩) ?_ ?_
      rotate_left
      · simp only [Act.put, List.setIfInBounds_toArray, List.set_cons_zero, List.set_cons_succ, i64_w, i32_w]
        rfl
      refine pure_ (i := 47) (N := some 82) (v := undef) (a' := ?_) (mk 48 []) rfl rfl (any_of HT_.out (by kernel_rfl)) (fun _ _ _ h => h) (Or.inr ⟨by rfl, rfl⟩) ?_ ?_
      rotate_left
      · simp only [Act.put, List.setIfInBounds_toArray, List.set_cons_zero, List.set_cons_succ, i64_w, i32_w]
        rfl
      refine pure_ (i := 48) (N := some 83) (v := undef) (a' := ?_) (mk 49 []) rfl rfl (any_of HT_.out (by kernel_rfl)) (fun _ _ _ h => h) (Or.inr ⟨by rfl, rfl⟩) ?_ ?_
      rotate_left
      · simp only [Act.put, List.setIfInBounds_toArray, List.set_cons_zero, List.set_cons_succ, i64_w, i32_w]
        rfl
      refine pure_ (i := 49) (N := some 84) (v := ?_) (a' := ?_) (mk 50 []) rfl rfl (any_of HT_.out (by kernel_rfl)) (fun _ _ _ h => h) (Or.inl ⟨by rfl, ?_⟩) ?_ ?_
      rotate_left
      · intro w'
        go_simp
        with_reducible rfl
      rotate_left
      · simp only [Act.put, List.setIfInBounds_toArray, List.set_cons_zero, List.set_cons_succ, i64_w, i32_w]
        rfl
      refine pure_ (i := 50) (N := some 85) (v := ?_) (a' := ?_) (mk 51 []) rfl rfl (any_of HT_.out (by kernel_rfl)) (fun _ _ _ h => h) (Or.inl ⟨by rfl, ?_⟩) ?_ ?_
      rotate_left
      · intro w'
        go_simp
        with_reducible rfl
      rotate_left
      · simp only [Act.put, List.setIfInBounds_toArray, List.set_cons_zero, List.set_cons_succ, i64_w, i32_w]
        rfl
      refine pure_ (i := 51) (N := some 86) (v := ?_) (a' := ?_) (mk 52 []) rfl rfl (any_of HT_.out (by kernel_rfl)) (fun _ _ _ h => h) (Or.inl ⟨by rfl, ?_⟩) ?_ ?_
      rotate_left
      · intro w'
        go_simp
        with_reducible rfl
      rotate_left
      · simp only [Act.put, List.setIfInBounds_toArray, List.set_cons_zero, List.set_cons_succ, i64_w, i32_w]
        rfl
      refine pure_ (i := 52) (N := some 87) (v := ?_) (a' := ?_) (mk 53 []) rfl rfl (any_of HT_.out (by kernel_rfl)) (fun _ _ _ h => h) (Or.inl ⟨by rfl, ?_⟩) ?_ ?_
      rotate_left
      · intro w'
        go_simp
        with_reducible rfl
      rotate_left
      · simp only [Act.put, List.setIfInBounds_toArray, List.set_cons_zero, List.set_cons_succ, i64_w, i32_w]
        rfl
      refine take_ (i := 53) (N := some 88) (v := ?_) (a' := ?_) (mk 54 []) rfl rfl (take_ofW HT_.out HW_.out (by kernel_rfl)) (fun _ _ _ h => h) (Or.inl ⟨by rfl, ?_⟩) hHeld ?_ ?_
      rotate_left
      · intro w' s0
        go_simp
        with_reducible rfl
      rotate_left
      · simp only [Act.put, List.setIfInBounds_toArray, List.set_cons_zero, List.set_cons_succ, i64_w, i32_w]
        rfl
      refine pure_ (i := 54) (N := some 89) (v := ?_) (a' := ?_) (mk 55 []) rfl rfl (any_of HT_.out (by kernel_rfl)) (fun _ _ _ h => h) (Or.inl ⟨by rfl, ?_⟩) ?_ ?_
      rotate_left
      · intro w'
        go_simp
        with_reducible rfl
      rotate_left
      · simp only [Act.put, List.setIfInBounds_toArray, List.set_cons_zero, List.set_cons_succ, i64_w, i32_w]
        rfl
      refine take_ (i := 56) (N := some 91) (v := ?_) (a' := ?_) (mk 55 [56]) rfl rfl (take_ofW HT_.out HW_.out (by kernel_rfl)) (fun _ _ _ h => h) (Or.inl ⟨by rfl, ?_⟩) hHeld ?_ ?_
      rotate_left
      · intro w' s0
        go_simp
        with_reducible rfl
      rotate_left
      · simp only [Act.put, List.setIfInBounds_toArray, List.set_cons_zero, List.set_cons_succ, i64_w, i32_w]
        rfl
      refine pure_ (i := 58) (N := some 93) (v := ?_) (a' := ?_) (mk 55 [56, 58]) rfl rfl (any_of HT_.out (by kernel_rfl)) (fun _ _ _ h => h) (Or.inl ⟨by rfl, ?_⟩) ?_ ?_
      rotate_left
      · intro w'
        go_simp
        with_reducible rfl
      rotate_left
      · simp only [Act.put, List.setIfInBounds_toArray, List.set_cons_zero, List.set_cons_succ, i64_w, i32_w]
        rfl
      refine one_ (i := 55) (N := some 90) (mk 57 [58]) rfl rfl (one_of HT_.out (by kernel_rfl)) (by decide) (fun K hK => ?_)
      refine goes_ Try.func58 (by kernel_rfl) rfl #[.agg #[.slice A L.length c], .slice B p.length cb] (by rfl) rfl rfl (by simp; first | done | exact ⟨rfl, rfl⟩ | rfl) ?_
      refine (source_calls w7 L A c p B cb HR7.out HP7.out hg h1).mono ?_
      rintro e w8 ⟨rfl, hb⟩
      refine ⟨_, rfl, ?_⟩
      have HX8 := Aside0.mk (blk_below HX7.out hb)
      have HR8 := Aside0.mk (Kd.C_below HR7.out hb)
      have HP8 := Aside0.mk (Kd.C_below HP7.out hb)
      have HB8 := Aside0.mk (below_then HB7.out HB7.out.size hb)
      clear HX7 HR7 HB7 hb
      refine hK.out _ _ ((blk_cell HX8.out 0).trans rfl) (fun hHeld => ?_)
      clear hK K
      refine norm_ (a' := ?_) ?_ ?_
      rotate_left
      · show Act.put _ (some 90) _ = _
        simp only [Act.put, List.setIfInBounds_toArray, List.set_cons_zero, List.set_cons_succ, i64_w, i32_w]
        rfl
      refine one_ (i := 57) (N := some 92) (mk 59 []) rfl rfl (one_of HT_.out (by kernel_rfl)) (by decide) (fun K hK => ?_)
      refine goes_ Try.func16 (by kernel_rfl) rfl #[.agg #[.slice A L.length c]] (by rfl) rfl rfl (by simp; first | done | rfl) ?_
      refine (cohortlaw03_Ref.calls kr0 A c L M w8 HR8.out hc hkr.out).mono ?_
      rintro e w9 ⟨u, rfl, hS, hb⟩
      obtain ⟨A9, c9, hA9, hl9, hC9⟩ := Kd.S_reads hS
      subst hA9
      have HC9 := Aside0.mk hC9
      clear hS hC9
      refine ⟨_, rfl, ?_⟩
      have HX9 := Aside0.mk (blk_below HX8.out hb)
      have HR9 := Aside0.mk (Kd.C_below HR8.out hb)
      have HP9 := Aside0.mk (Kd.C_below HP8.out hb)
      have HB9 := Aside0.mk (below_then HB8.out HB8.out.size hb)
      clear HX8 HR8 HB8 hb
      refine hK.out _ _ ((blk_cell HX9.out 0).trans rfl) (fun hHeld => ?_)
      clear hK K
      refine norm_ (a' := ?_) ?_ ?_
      rotate_left
      · show Act.put _ (some 92) _ = _
        simp only [Act.put, List.setIfInBounds_toArray, List.set_cons_zero, List.set_cons_succ, i64_w, i32_w]
        rfl
      refine one_ (i := 59) (N := some 94) (mk 60 []) rfl rfl (one_of HT_.out (by kernel_rfl)) (by decide) (fun K hK => ?_)
      refine goes_ Try.func51 (by kernel_rfl) rfl #[.string ⟨#[98, 102, 115]⟩, .slice A9 M.length c9, .slice B p.length cb] (by rfl) rfl rfl (by simp; first | done | exact ⟨rfl, rfl, rfl⟩ | rfl) ?_
      refine (cohortref07_Check.calls kb ⟨#[98, 102, 115]⟩ A9 c9 M B cb p (srcR L p) w9 HC9.out hl9 HP9.out hcb hkb.out).mono ?_
      rintro e w10 ⟨rfl, hb⟩
      refine ⟨_, rfl, ?_⟩
      have HX10 := Aside0.mk (blk_below HX9.out hb)
      have HR10 := Aside0.mk (Kd.C_below HR9.out hb)
      have HP10 := Aside0.mk (Kd.C_below HP9.out hb)
      have HB10 := Aside0.mk (below_then HB9.out HB9.out.size hb)
      clear HX9 HR9 HB9 hb
      refine hK.out _ _ ((blk_cell HX10.out 0).trans rfl) (fun hHeld => ?_)
      clear hK K
      refine norm_ (a' := ?_) ?_ ?_
      rotate_left
      · show Act.put _ (some 94) _ = _
        simp only [Act.put, List.setIfInBounds_toArray, List.set_cons_zero, List.set_cons_succ, i64_w, i32_w]
        rfl
      refine pure_ (i := 60) (N := some 95) (v := ?_) (a' := ?_) (mk 61 []) rfl rfl (any_of HT_.out (by kernel_rfl)) (fun _ _ _ h => h) (Or.inl ⟨by rfl, ?_⟩) ?_ ?_
      rotate_left
      · intro w'
        go_simp
        with_reducible rfl
      rotate_left
      · simp only [Act.put, List.setIfInBounds_toArray, List.set_cons_zero, List.set_cons_succ, i64_w, i32_w]
        rfl
      refine pure_ (i := 61) (N := some 96) (v := ?_) (a' := ?_) (mk 62 []) rfl rfl (any_of HT_.out (by kernel_rfl)) (fun _ _ _ h => h) (Or.inl ⟨by rfl, ?_⟩) ?_ ?_
      rotate_left
      · intro w'
        go_simp
        with_reducible rfl
      rotate_left
      · simp only [Act.put, List.setIfInBounds_toArray, List.set_cons_zero, List.set_cons_succ, i64_w, i32_w]
        rfl
      refine pure_ (i := 62) (N := some 6) (v := ?_) (a' := ?_) (mk 63 []) rfl rfl (any_of HT_.out (by kernel_rfl)) (fun _ _ _ h => h) (Or.inl ⟨by rfl, ?_⟩) ?_ ?_
      rotate_left
      · intro w'
        go_simp
        with_reducible rfl
      rotate_left
      · simp only [Act.put, List.setIfInBounds_toArray, List.set_cons_zero, List.set_cons_succ, i64_w, i32_w]
        rfl
      refine done_ (done_of HT_.out (by kernel_rfl)) ?_
      go_wp2_with fail
      go_ret
      exact ⟨by first | rfl | simp, HB10.out⟩

set_option maxHeartbeats 16000000 in
set_option maxRecDepth 100000 in
theorem law_b_true (w : World) (s : ByteArray) (L : List S53) (A : Option Addr) (c : Nat) (p : List Int) (B : Option Addr) (cb : Nat) (hc : L.length ≤ c) (hr : Kd.C k53 w A L.length L) (hp : Kd.C (Kd.int .i64) w B p.length p) (hcb : p.length ≤ cb) (hE : ∀ v ∈ L, v.f2.length ≤ 8796093022208) (h0 : Checks L 0) (h1 : L.length ≤ 256) (hg : Grows L) (hlen : p.length = 1) (hp0 : rd p 0 < 0) (hown : ownB s = true) :
    Calls Try.prog 10 #[.string s, .agg #[.slice A L.length c], .slice B p.length cb] w fun e w' => e = .returned (.bool true) ∧ Below w.heap.size w w' := by
  have hE' : ∀ v ∈ L, v.f2.length ≤ 9223372036854775806 := fun v hv => by have := hE v hv; omega
  obtain ⟨kc, r, hkc0, hck⟩ := ref_check L hE'
  obtain rfl := hck.one h0
  obtain ⟨kr0, hkr0⟩ := ref_ref L (by omega) hE
  obtain ⟨kb, hkb0⟩ := ref_bfs ⟨#[98, 102, 115]⟩ (by rw [ByteArray.toList_eq]) L h1 p
  obtain ⟨M, hM⟩ : ∃ M, L.map r59 = M := ⟨_, rfl⟩
  obtain ⟨ko, hko0⟩ := ref_own s ((own_iff s).1 hown) L h1 hE' p
  rw [hM] at hko0
  have hko := Aside0.mk hko0
  clear hko0
  rw [hM] at hkc0 hkr0 hkb0
  have hkc := Aside0.mk hkc0
  have hkr := Aside0.mk hkr0
  have hkb := Aside0.mk hkb0
  obtain ⟨cr, hcr0, hcr1⟩ := comb_same s
  have hcr := Aside0.mk hcr0
  have hcr2 := Aside0.mk hcr1
  have hob0 := known_own s
  rw [hown] at hob0
  have hob := Aside0.mk hob0
  obtain ⟨F, hF1, hF2, hF3⟩ := five_own s
  rw [hown] at hF3
  have HF1 := Aside0.mk hF1
  have HF3 := Aside0.mk hF3
  clear hkc0 hkr0 hkb0 hck hcr0 hcr1 hob0 hF1 hF3 hM
  obtain ⟨ad, hB, hpc⟩ := Kd.at_int hp 0 (by omega) (by omega)
  subst hB
  replace hpc : w.cell? ad = some (.int .i64 (rd p 0)) := by simpa [Addr.add] using hpc
  have hlen1 : ((p.length : Int) == 1) = true := beq_iff_eq.mpr (by omega)
  have hlt0 : ((0 : Int) < (p.length : Int)) = True := eq_true (by omega)
  have hltn : (0 < p.length) = True := eq_true (by omega)
  have hlt1 : decide ((0 : Int) < (p.length : Int)) = true := decide_eq_true (by omega)
  have hln0 : ((p.length : Int) == 0) = false := beq_eq_false_iff_ne.mpr (by omega)
  have hbn : (noneR p == 0) = false := by
    unfold noneR
    rw [if_neg (by omega)]
    rfl
  have hbt : (turnsR p == 0) = false := by
    unfold turnsR
    rw [if_pos hlen, if_pos hp0]
    rfl
  have hq1 : decide (0 ≤ rd p 0) = false := decide_eq_false (by omega)
  clear hlen
  have HX1 := Aside0.mk (blk_new w (.cells #[.slice A L.length c] 24))
  have HB1 := Aside0.mk (below_alloc (Below.refl w.heap.size w) (.cells #[.slice A L.length c] 24))
  have HR1 := Aside0.mk (Kd.C_alloc hr (.cells #[.slice A L.length c] 24))
  have HP1 := Aside0.mk (Kd.C_alloc hp (.cells #[.slice A L.length c] 24))
  clear hr hp
  go_enter Try.func10, Try.ntmps10
  go_wp2_with fail
  generalize w.alloc (.cells #[.slice A L.length c] 24) = w1 at HX1 HB1 HR1 HP1 ⊢
  refine (cohortlaw03_Ref.calls kr0 A c L M w1 HR1.out hc hkr.out).mono ?_
  rintro e w2 ⟨u2, rfl, hS2, hb2⟩
  obtain ⟨A2, c2, hA2, hl2, hC2⟩ := Kd.S_reads hS2
  subst hA2
  have HX2 := Aside0.mk (blk_below HX1.out hb2)
  have HR2 := Aside0.mk (Kd.C_below HR1.out hb2)
  have HP2 := Aside0.mk (Kd.C_below HP1.out hb2)
  have HB2 := Aside0.mk (below_then HB1.out HB1.out.size hb2)
  clear hS2 hb2 HX1 HB1 HR1 HP1
  go_wp2_with fail
  refine (cohortref03_Check.calls kc A2 c2 M 0 w2 hC2 hl2 hkc.out).mono ?_
  rintro e w3 ⟨rfl, hd⟩
  have HX3 := Aside0.mk (blk_below HX2.out hd.below)
  have HR3 := Aside0.mk (Kd.C_below HR2.out hd.below)
  have HP3 := Aside0.mk (Kd.C_below HP2.out hd.below)
  have HB3 := Aside0.mk (below_then HB2.out HB2.out.size hd.below)
  clear hd hC2 HX2 HB2 HR2 HP2
  go_wp2_with fail
  refine (cohortlaw07_five.calls F w3 HF1.out).mono ?_
  rintro e w4 ⟨v16, rfl, hv16, hb4⟩
  have HX4 := Aside0.mk (blk_below HX3.out hb4)
  have HR4 := Aside0.mk (Kd.C_below HR3.out hb4)
  have HP4 := Aside0.mk (Kd.C_below HP3.out hb4)
  have HB4 := Aside0.mk (below_then HB3.out HB3.out.size hb4)
  obtain ⟨A16, d16, hA16, _, hC16⟩ := Kd.R_reads hv16
  subst hA16
  have HC16 := Aside0.mk hC16
  clear hv16 hb4 hC16 HX3 HB3 HR3 HP3
  go_wp2_with fail
  go_loopw [7, 18] (fun v7 v18 wr => ∃ k : Nat, v18 = .int .i64 (k : Int) ∧ k ≤ F.length ∧ v7 = .bool ((F.take k).any fun n => n.toList == s.toList) ∧ Aside0 (wr = w4)) (fun _ v18 _ => (F.length - (intOf v18)).toNat)
  case atStart => exact ⟨0, rfl, Nat.zero_le _, rfl, ⟨rfl⟩⟩
  case round =>
    obtain ⟨k, rfl, hk, rfl, hw⟩ := hrel
    obtain rfl := hw.out
    rcases Nat.lt_or_ge k F.length with hlt | hge
    · have hlt5 : ((k : Int) < (F.length : Int)) = True := eq_true (by omega)
      obtain ⟨adf, hAf, hy⟩ := Kd.at_string HC16.out (k : Int) (by omega) (by omega)
      subst hAf
      rw [Int.toNat_natCast] at hy
      have hsn : ((F.take (k + 1)).any fun n => n.toList == s.toList) = (((F.take k).any fun n => n.toList == s.toList) || ((rdOf ByteArray.empty F (k : Int)).toList == s.toList)) := any_snoc F s k hlt
      have HSN := Aside0.mk hsn
      clear hsn
      generalize rdOf ByteArray.empty F (k : Int) = sk at hy HSN
      generalize ((F.take k).any fun n => n.toList == s.toList) = bo at HSN ⊢
      cases bo
      · go_wp2_with fail
        go_roundw
        case rel => exact ⟨k + 1, by go_num, by omega, by rw [HSN.out]; rfl, ⟨by trivial⟩⟩
        case measure => simp [intOf]; omega
      · go_wp2_with fail
        go_roundw
        case rel => exact ⟨k + 1, by go_num, by omega, by rw [HSN.out]; rfl, ⟨by trivial⟩⟩
        case measure => simp [intOf]; omega
    · have hk1 : k = F.length := by omega
      subst hk1
      have hlt5 : ((F.length : Int) < (F.length : Int)) = False := eq_false (by omega)
      rw [List.take_length, HF3.out]
      have HXf := HX4
      have HBf := HB4
      have HRf := HR4
      have HPf := HP4
      clear HX4 HB4 HR4 HP4 HC16 hw
      obtain ⟨wf, hwf⟩ : ∃ wf, wr = wf := ⟨_, rfl⟩
      subst hwf
      have hcf : wr.cell? ⟨w.heap.size, 0, none⟩ = some (.slice A L.length c) := (blk_cell HXf.out 0).trans rfl
      go_wp2_with fail
      clear hcf
      refine (cohortlaw03_Ref.calls kr0 A c L M wr HRf.out hc hkr.out).mono ?_
      rintro e wg ⟨ug, rfl, hSg, hbg⟩
      obtain ⟨Ag, cg, hAg, hlg, hCg⟩ := Kd.S_reads hSg
      subst hAg
      have HXg := Aside0.mk (blk_below HXf.out hbg)
      have HRg := Aside0.mk (Kd.C_below HRf.out hbg)
      have HPg := Aside0.mk (Kd.C_below HPf.out hbg)
      have HBg := Aside0.mk (below_then HBf.out HBf.out.size hbg)
      clear hSg hbg HXf HRf HPf HBf
      go_wp2_with fail
      refine (cohortref07_Check.calls ko s Ag cg M (some ad) cb p (kr s L p) wg hCg hlg HPg.out hcb hko.out).mono ?_
      rintro e wh ⟨rfl, hbh⟩
      have HXh := Aside0.mk (blk_below HXg.out hbh)
      have HRh := Aside0.mk (Kd.C_below HRg.out hbh)
      have HPh := Aside0.mk (Kd.C_below HPg.out hbh)
      have HBh := Aside0.mk (below_then HBg.out HBg.out.size hbh)
      clear hbh hCg HXg HRg HPg HBg
      go_wp2_with fail
      have HX0 := Aside0.mk (blk_drew HXh.out)
      have HR0 := Aside0.mk (Kd.C_drew HRh.out)
      have HP0 := Aside0.mk (Kd.C_drew HPh.out)
      have HB0 := Aside0.mk (below_drew1 HBh.out)
      have hpc0 : wh.drew.cell? ad = some (.int .i64 (rd p 0)) := (HB0.out.cell (World.block_lt_of_cell? _ _ hpc)).trans hpc
      refine start_ (n := 63) (S := fun w' => w'.cell? ⟨w.heap.size, 0, none⟩ = some (.slice A L.length c) ∧ w'.cell? ad = some (.int .i64 (rd p 0))) (ds := []) (mk 0 []) (by kernel_rfl) rfl (by kernel_rfl) (⟨(blk_cell HX0.out 0).trans rfl, hpc0⟩) (fun hHeld => ?_)
      refine with_tabW tab12 bits12 (fun HT_ HW_ => ?_)
      clear HXh HRh HPh HBh
      generalize wh.drew = w0 at HX0 HR0 HP0 HB0 hHeld hpc0 ⊢
      refine one_ (i := 0) (N := some 35) (mk 1 []) rfl rfl (one_of HT_.out (by kernel_rfl)) (by decide) (fun K hK => ?_)
      refine goes_ Try.func44 (by kernel_rfl) rfl #[] (by rfl) rfl rfl (by simp) ?_
      refine (AwakeK.awake_calls w0).mono ?_
      rintro e w1 ⟨rfl, hb⟩
      refine ⟨_, rfl, ?_⟩
      have HX1 := Aside0.mk (blk_below HX0.out hb)
      have HR1 := Aside0.mk (Kd.C_below HR0.out hb)
      have HP1 := Aside0.mk (Kd.C_below HP0.out hb)
      have HB1 := Aside0.mk (below_then HB0.out HB0.out.size hb)
      have hpc1 : w1.cell? ad = some (.int .i64 (rd p 0)) := (hb.cell (World.block_lt_of_cell? _ _ hpc0)).trans hpc0
      clear HX0 HR0 HB0 hpc0 hb
      refine hK.out _ _ (⟨(blk_cell HX1.out 0).trans rfl, hpc1⟩) (fun hHeld => ?_)
      clear hK K
      refine norm_ (a' := ?_) ?_ ?_
      rotate_left
      · show Act.put _ (some 35) _ = _
        simp only [Act.put, List.setIfInBounds_toArray, List.set_cons_zero, List.set_cons_succ, i64_w, i32_w]
        rfl
      refine pure_ (i := 1) (N := some 36) (v := ?_) (a' := ?_) (mk 2 []) rfl rfl (any_of HT_.out (by kernel_rfl)) (fun _ _ _ h => h) (Or.inl ⟨by rfl, ?_⟩) ?_ ?_
      rotate_left
      · intro w'
        go_simp
        with_reducible rfl
      rotate_left
      · simp only [Act.put, List.setIfInBounds_toArray, List.set_cons_zero, List.set_cons_succ, i64_w, i32_w]
        rfl
      refine pure_ (i := 2) (N := some 37) (v := ?_) (a' := ?_) (mk 3 []) rfl rfl (any_of HT_.out (by kernel_rfl)) (fun _ _ _ h => h) (Or.inl ⟨by rfl, ?_⟩) ?_ ?_
      rotate_left
      · intro w'
        go_simp
        with_reducible rfl
      rotate_left
      · simp only [Act.put, List.setIfInBounds_toArray, List.set_cons_zero, List.set_cons_succ, i64_w, i32_w]
        rfl
      refine take_ (i := 3) (N := some 38) (v := ?_) (a' := ?_) (mk 4 []) rfl rfl (take_ofW HT_.out HW_.out (by kernel_rfl)) (fun _ _ _ h => h) (Or.inl ⟨by rfl, ?_⟩) hHeld ?_ ?_
      rotate_left
      · intro w' s0
        go_simp
        with_reducible rfl
      rotate_left
      · simp only [Act.put, List.setIfInBounds_toArray, List.set_cons_zero, List.set_cons_succ, i64_w, i32_w]
        rfl
      refine pure_ (i := 4) (N := some 39) (v := ?_) (a' := ?_) (mk 5 []) rfl rfl (any_of HT_.out (by kernel_rfl)) (fun _ _ _ h => h) (Or.inl ⟨by rfl, ?_⟩) ?_ ?_
      rotate_left
      · intro w'
        go_simp
        with_reducible rfl
      rotate_left
      · simp only [Act.put, List.setIfInBounds_toArray, List.set_cons_zero, List.set_cons_succ, i64_w, i32_w]
        rfl
      refine pure_ (i := 6) (N := some 41) (v := ?_) (a' := ?_) (mk 5 [6]) rfl rfl (any_of HT_.out (by kernel_rfl)) (fun _ _ _ h => h) (Or.inl ⟨by rfl, ?_⟩) ?_ ?_
      rotate_left
      · intro w'
        go_simp
        with_reducible rfl
      rotate_left
      · simp only [Act.put, List.setIfInBounds_toArray, List.set_cons_zero, List.set_cons_succ, i64_w, i32_w]
        rfl
      refine one_ (i := 5) (N := some 40) (mk 7 []) rfl rfl (one_of HT_.out (by kernel_rfl)) (by decide) (fun K hK => ?_)
      refine goes_ Try.func52 (by kernel_rfl) rfl #[.string s, .agg #[.slice A L.length c], .slice (some ad) p.length cb] (by rfl) rfl rfl (by simp; first | done | exact ⟨rfl, rfl, rfl⟩ | rfl) ?_
      refine (kcheck_calls w1 s L A c p (some ad) cb HR1.out HP1.out hcb hg h1).mono ?_
      rintro e w2 ⟨rfl, hb⟩
      refine ⟨_, rfl, ?_⟩
      have HX2 := Aside0.mk (blk_below HX1.out hb)
      have HR2 := Aside0.mk (Kd.C_below HR1.out hb)
      have HP2 := Aside0.mk (Kd.C_below HP1.out hb)
      have HB2 := Aside0.mk (below_then HB1.out HB1.out.size hb)
      have hpc2 : w2.cell? ad = some (.int .i64 (rd p 0)) := (hb.cell (World.block_lt_of_cell? _ _ hpc1)).trans hpc1
      clear HX1 HR1 HB1 hpc1 hb
      refine hK.out _ _ (⟨(blk_cell HX2.out 0).trans rfl, hpc2⟩) (fun hHeld => ?_)
      clear hK K
      refine norm_ (a' := ?_) ?_ ?_
      rotate_left
      · show Act.put _ (some 40) _ = _
        simp only [Act.put, List.setIfInBounds_toArray, List.set_cons_zero, List.set_cons_succ, i64_w, i32_w]
        rfl
      refine pure_ (i := 7) (N := some 42) (v := ?_) (a' := ?_) (mk 8 []) rfl rfl (any_of HT_.out (by kernel_rfl)) (fun _ _ _ h => h) (Or.inl ⟨by rfl, ?_⟩) ?_ ?_
      rotate_left
      · intro w'
        go_simp
        with_reducible rfl
      rotate_left
      · simp only [Act.put, List.setIfInBounds_toArray, List.set_cons_zero, List.set_cons_succ, i64_w, i32_w]
        rfl
      refine pure_ (i := 8) (N := some 43) (v := ?_) (a' := ?_) (mk 9 []) rfl rfl (any_of HT_.out (by kernel_rfl)) (fun _ _ _ h => h) (Or.inl ⟨by rfl, ?_⟩) ?_ ?_
      rotate_left
      · intro w'
        go_simp
        with_reducible rfl
      rotate_left
      · simp only [Act.put, List.setIfInBounds_toArray, List.set_cons_zero, List.set_cons_succ, i64_w, i32_w]
        rfl
      refine pure_ (i := 9) (N := some 44) (v := ?_) (a' := ?_) (mk 10 []) rfl rfl (any_of HT_.out (by kernel_rfl)) (fun _ _ _ h => h) (Or.inl ⟨by rfl, ?_⟩) ?_ ?_
      rotate_left
      · intro w'
        go_simp
        with_reducible rfl
      rotate_left
      · simp only [Act.put, List.setIfInBounds_toArray, List.set_cons_zero, List.set_cons_succ, i64_w, i32_w]
        rfl
      refine pure_ (i := 10) (N := some 45) (v := ?_) (a' := ?_) (mk 11 []) rfl rfl (any_of HT_.out (by kernel_rfl)) (fun _ _ _ h => h) (Or.inl ⟨by rfl, ?_⟩) ?_ ?_
      rotate_left
      · intro w'
        go_simp
        with_reducible rfl
      rotate_left
      · simp only [Act.put, List.setIfInBounds_toArray, List.set_cons_zero, List.set_cons_succ, i64_w, i32_w]
        rfl
      refine pure_ (i := 12) (N := some 47) (v := ?_) (a' := ?_) (mk 11 [12]) rfl rfl (any_of HT_.out (by kernel_rfl)) (fun _ _ _ h => h) (Or.inl ⟨by rfl, ?_⟩) ?_ ?_
      rotate_left
      · intro w'
        go_simp
        with_reducible rfl
      rotate_left
      · simp only [Act.put, List.setIfInBounds_toArray, List.set_cons_zero, List.set_cons_succ, i64_w, i32_w]
        rfl
      refine one_ (i := 11) (N := some 46) (mk 13 []) rfl rfl (one_of HT_.out (by kernel_rfl)) (by decide) (fun K hK => ?_)
      refine goes_ Try.func53 (by kernel_rfl) rfl #[.string s] (by rfl) rfl rfl (by simp; first | done | rfl) ?_
      refine (kern_Known.calls s true w2 hob.out).mono ?_
      rintro e w3 ⟨rfl, hb⟩
      refine ⟨_, rfl, ?_⟩
      have HX3 := Aside0.mk (blk_below HX2.out hb.below)
      have HR3 := Aside0.mk (Kd.C_below HR2.out hb.below)
      have HP3 := Aside0.mk (Kd.C_below HP2.out hb.below)
      have HB3 := Aside0.mk (below_then HB2.out HB2.out.size hb.below)
      have hpc3 : w3.cell? ad = some (.int .i64 (rd p 0)) := (hb.below.cell (World.block_lt_of_cell? _ _ hpc2)).trans hpc2
      clear HX2 HR2 HB2 hpc2 hb
      refine hK.out _ _ (⟨(blk_cell HX3.out 0).trans rfl, hpc3⟩) (fun hHeld => ?_)
      clear hK K
      refine norm_ (a' := ?_) ?_ ?_
      rotate_left
      · show Act.put _ (some 46) _ = _
        simp only [Act.put, List.setIfInBounds_toArray, List.set_cons_zero, List.set_cons_succ, i64_w, i32_w]
        rfl
      refine pure_ (i := 13) (N := some 48) (v := ?_) (a' := ?_) (mk 14 []) rfl rfl (any_of HT_.out (by kernel_rfl)) (fun _ _ _ h => h) (Or.inl ⟨by rfl, ?_⟩) ?_ ?_
      rotate_left
      · intro w'
        go_simp
        with_reducible rfl
      rotate_left
      · simp only [Act.put, List.setIfInBounds_toArray, List.set_cons_zero, List.set_cons_succ, i64_w, i32_w]
        rfl
      refine pure_ (i := 14) (N := some 49) (v := ?_) (a' := ?_) (mk 15 []) rfl rfl (any_of HT_.out (by kernel_rfl)) (fun _ _ _ h => h) (Or.inl ⟨by rfl, ?_⟩) ?_ ?_
      rotate_left
      · intro w'
        go_simp
        with_reducible rfl
      rotate_left
      · simp only [Act.put, List.setIfInBounds_toArray, List.set_cons_zero, List.set_cons_succ, i64_w, i32_w]
        rfl
      refine pure_ (i := 15) (N := some 50) (v := ?_) (a' := ?_) (mk 16 []) rfl rfl (any_of HT_.out (by kernel_rfl)) (fun _ _ _ h => h) (Or.inl ⟨by rfl, ?_⟩) ?_ ?_
      rotate_left
      · intro w'
        go_simp
        with_reducible rfl
      rotate_left
      · simp only [Act.put, List.setIfInBounds_toArray, List.set_cons_zero, List.set_cons_succ, i64_w, i32_w]
        rfl
      refine pure_ (i := 16) (N := some 51) (v := ?_) (a' := ?_) (mk 17 []) rfl rfl (any_of HT_.out (by kernel_rfl)) (fun _ _ _ h => h) (Or.inl ⟨by rfl, ?_⟩) ?_ ?_
      rotate_left
      · intro w'
        go_simp
        with_reducible rfl
      rotate_left
      · simp only [Act.put, List.setIfInBounds_toArray, List.set_cons_zero, List.set_cons_succ, i64_w, i32_w]
        rfl
      refine pure_ (i := 18) (N := some 53) (v := ?_) (a' := ?_) (mk 17 [18]) rfl rfl (any_of HT_.out (by kernel_rfl)) (fun _ _ _ h => h) (Or.inl ⟨by rfl, ?_⟩) ?_ ?_
      rotate_left
      · intro w'
        go_simp
        with_reducible rfl
      rotate_left
      · simp only [Act.put, List.setIfInBounds_toArray, List.set_cons_zero, List.set_cons_succ, i64_w, i32_w]
        rfl
      refine one_ (i := 17) (N := some 52) (mk 19 []) rfl rfl (one_of HT_.out (by kernel_rfl)) (by decide) (fun K hK => ?_)
      refine goes_ Try.func54 (by kernel_rfl) rfl #[.string s] (by rfl) rfl rfl (by simp; first | done | rfl) ?_
      refine (kern_Combiner.calls 2 s cr w3 hcr.out).mono ?_
      rintro e w4 ⟨rfl, hb⟩
      refine ⟨_, rfl, ?_⟩
      have HX4 := Aside0.mk (blk_below HX3.out hb.below)
      have HR4 := Aside0.mk (Kd.C_below HR3.out hb.below)
      have HP4 := Aside0.mk (Kd.C_below HP3.out hb.below)
      have HB4 := Aside0.mk (below_then HB3.out HB3.out.size hb.below)
      have hpc4 : w4.cell? ad = some (.int .i64 (rd p 0)) := (hb.below.cell (World.block_lt_of_cell? _ _ hpc3)).trans hpc3
      clear HX3 HR3 HB3 hpc3 hb
      refine hK.out _ _ (⟨(blk_cell HX4.out 0).trans rfl, hpc4⟩) (fun hHeld => ?_)
      clear hK K
      refine norm_ (a' := ?_) ?_ ?_
      rotate_left
      · show Act.put _ (some 52) _ = _
        simp only [Act.put, List.setIfInBounds_toArray, List.set_cons_zero, List.set_cons_succ, i64_w, i32_w]
        rfl
      refine one_ (i := 19) (N := some 54) (mk 20 []) rfl rfl (one_of HT_.out (by kernel_rfl)) (by decide) (fun K hK => ?_)
      refine goes_ Try.func55 (by kernel_rfl) rfl #[.string s] (by rfl) rfl rfl (by simp; first | done | rfl) ?_
      refine (cohortref07_Combiner.calls 2 s cr w4 hcr2.out).mono ?_
      rintro e w5 ⟨rfl, hb⟩
      refine ⟨_, rfl, ?_⟩
      have HX5 := Aside0.mk (blk_below HX4.out hb.below)
      have HR5 := Aside0.mk (Kd.C_below HR4.out hb.below)
      have HP5 := Aside0.mk (Kd.C_below HP4.out hb.below)
      have HB5 := Aside0.mk (below_then HB4.out HB4.out.size hb.below)
      have hpc5 : w5.cell? ad = some (.int .i64 (rd p 0)) := (hb.below.cell (World.block_lt_of_cell? _ _ hpc4)).trans hpc4
      clear HX4 HR4 HB4 hpc4 hb
      refine hK.out _ _ (⟨(blk_cell HX5.out 0).trans rfl, hpc5⟩) (fun hHeld => ?_)
      clear hK K
      refine norm_ (a' := ?_) ?_ ?_
      rotate_left
      · show Act.put _ (some 54) _ = _
        simp only [Act.put, List.setIfInBounds_toArray, List.set_cons_zero, List.set_cons_succ, i64_w, i32_w]
        rfl
      refine pure_ (i := 20) (N := some 55) (v := ?_) (a' := ?_) (mk 21 []) rfl rfl (any_of HT_.out (by kernel_rfl)) (fun _ _ _ h => h) (Or.inl ⟨by rfl, ?_⟩) ?_ ?_
      rotate_left
      · intro w'
        go_simp
        with_reducible rfl
      rotate_left
      · simp only [Act.put, List.setIfInBounds_toArray, List.set_cons_zero, List.set_cons_succ, i64_w, i32_w]
        rfl
      refine pure_ (i := 21) (N := some 56) (v := ?_) (a' := ?_) (mk 22 []) rfl rfl (any_of HT_.out (by kernel_rfl)) (fun _ _ _ h => h) (Or.inl ⟨by rfl, ?_⟩) ?_ ?_
      rotate_left
      · intro w'
        go_simp
        with_reducible rfl
      rotate_left
      · simp only [Act.put, List.setIfInBounds_toArray, List.set_cons_zero, List.set_cons_succ, i64_w, i32_w]
        rfl
      refine pure_ (i := 22) (N := some 57) (v := ?_) (a' := ?_) (mk 23 []) rfl rfl (any_of HT_.out (by kernel_rfl)) (fun _ _ _ h => h) (Or.inl ⟨by rfl, ?_⟩) ?_ ?_
      rotate_left
      · intro w'
        go_simp
        with_reducible rfl
      rotate_left
      · simp only [Act.put, List.setIfInBounds_toArray, List.set_cons_zero, List.set_cons_succ, i64_w, i32_w]
        rfl
      refine pure_ (i := 23) (N := some 58) (v := ?_) (a' := ?_) (mk 24 []) rfl rfl (any_of HT_.out (by kernel_rfl)) (fun _ _ _ h => h) (Or.inl ⟨by rfl, ?_⟩) ?_ ?_
      rotate_left
      · intro w'
        go_simp
        with_reducible rfl
      rotate_left
      · simp only [Act.put, List.setIfInBounds_toArray, List.set_cons_zero, List.set_cons_succ, i64_w, i32_w]
        rfl
      refine pure_ (i := 26) (N := some 61) (v := ?_) (a' := ?_) (mk 24 [26]) rfl rfl (any_of HT_.out (by kernel_rfl)) (fun _ _ _ h => h) (Or.inl ⟨by rfl, ?_⟩) ?_ ?_
      rotate_left
      · intro w'
        go_simp
        with_reducible rfl
      rotate_left
      · simp only [Act.put, List.setIfInBounds_toArray, List.set_cons_zero, List.set_cons_succ, i64_w, i32_w]
        rfl
      refine pure_ (i := 27) (N := some 62) (v := ?_) (a' := ?_) (mk 24 [26, 27]) rfl rfl (any_of HT_.out (by kernel_rfl)) (fun _ _ _ h => h) (Or.inl ⟨by rfl, ?_⟩) ?_ ?_
      rotate_left
      · intro w'
        go_simp
        with_reducible rfl
      rotate_left
      · simp only [Act.put, List.setIfInBounds_toArray, List.set_cons_zero, List.set_cons_succ, i64_w, i32_w]
        rfl
      refine pure_ (i := 28) (N := some 63) (v := ?_) (a' := ?_) (mk 24 [26, 27, 28]) rfl rfl (any_of HT_.out (by kernel_rfl)) (fun _ _ _ h => h) (Or.inl ⟨by rfl, ?_⟩) ?_ ?_
      rotate_left
      · intro w'
        go_simp
        with_reducible rfl
      rotate_left
      · simp only [Act.put, List.setIfInBounds_toArray, List.set_cons_zero, List.set_cons_succ, i64_w, i32_w]
        rfl
      refine one_ (i := 24) (N := some 59) (mk 25 [26, 27, 28]) rfl rfl (one_of HT_.out (by kernel_rfl)) (by decide) (fun K hK => ?_)
      refine goes_ Try.func56 (by kernel_rfl) rfl #[.slice (some ad) p.length cb] (by rfl) rfl rfl (by simp; first | done | rfl) ?_
      refine (kern_None.calls (some ad) cb p (noneR p) w5 HP5.out hcb (none_f p)).mono ?_
      rintro e w6 ⟨rfl, hb⟩
      refine ⟨_, rfl, ?_⟩
      have HX6 := Aside0.mk (blk_below HX5.out hb.below)
      have HR6 := Aside0.mk (Kd.C_below HR5.out hb.below)
      have HP6 := Aside0.mk (Kd.C_below HP5.out hb.below)
      have HB6 := Aside0.mk (below_then HB5.out HB5.out.size hb.below)
      have hpc6 : w6.cell? ad = some (.int .i64 (rd p 0)) := (hb.below.cell (World.block_lt_of_cell? _ _ hpc5)).trans hpc5
      clear HX5 HR5 HB5 hpc5 hb
      refine hK.out _ _ (⟨(blk_cell HX6.out 0).trans rfl, hpc6⟩) (fun hHeld => ?_)
      clear hK K
      refine norm_ (a' := ?_) ?_ ?_
      rotate_left
      · show Act.put _ (some 59) _ = _
        simp only [Act.put, List.setIfInBounds_toArray, List.set_cons_zero, List.set_cons_succ, i64_w, i32_w]
        rfl
      refine pure_ (i := 25) (N := some 60) (v := ?_) (a' := ?_) (mk 29 []) rfl rfl (any_of HT_.out (by kernel_rfl)) (fun _ _ _ h => h) (Or.inl ⟨by rfl, ?_⟩) ?_ ?_
      rotate_left
      · intro w'
        go_simp
        with_reducible rfl
      rotate_left
      · simp only [Act.put, List.setIfInBounds_toArray, List.set_cons_zero, List.set_cons_succ, i64_w, i32_w]
        rfl
      refine pure_ (i := 29) (N := some 64) (v := ?_) (a' := ?_) (mk 30 []) rfl rfl (any_of HT_.out (by kernel_rfl)) (fun _ _ _ h => h) (Or.inl ⟨by rfl, ?_⟩) ?_ ?_
      rotate_left
      · intro w'
        go_simp
        with_reducible rfl
      rotate_left
      · simp only [Act.put, List.setIfInBounds_toArray, List.set_cons_zero, List.set_cons_succ, i64_w, i32_w]
        rfl
      refine pure_ (i := 30) (N := some 65) (v := ?_) (a' := ?_) (mk 31 []) rfl rfl (any_of HT_.out (by kernel_rfl)) (fun _ _ _ h => h) (Or.inl ⟨by rfl, ?_⟩) ?_ ?_
      rotate_left
      · intro w'
        go_simp
        with_reducible rfl
      rotate_left
      · simp only [Act.put, List.setIfInBounds_toArray, List.set_cons_zero, List.set_cons_succ, i64_w, i32_w]
        rfl
      refine pure_ (i := 31) (N := some 66) (v := ?_) (a' := ?_) (mk 32 []) rfl rfl (any_of HT_.out (by kernel_rfl)) (fun _ _ _ h => h) (Or.inl ⟨by rfl, ?_⟩) ?_ ?_
      rotate_left
      · intro w'
        go_simp
        with_reducible rfl
      rotate_left
      · simp only [Act.put, List.setIfInBounds_toArray, List.set_cons_zero, List.set_cons_succ, i64_w, i32_w]
        rfl
      refine pure_ (i := 32) (N := some 67) (v := ?_) (a' := ?_) (mk 33 []) rfl rfl (any_of HT_.out (by kernel_rfl)) (fun _ _ _ h => h) (Or.inl ⟨by rfl, ?_⟩) ?_ ?_
      rotate_left
      · intro w'
        go_simp
        with_reducible rfl
      rotate_left
      · simp only [Act.put, List.setIfInBounds_toArray, List.set_cons_zero, List.set_cons_succ, i64_w, i32_w]
        rfl
      refine pure_ (i := 35) (N := some 70) (v := ?_) (a' := ?_) (mk 33 [35]) rfl rfl (any_of HT_.out (by kernel_rfl)) (fun _ _ _ h => h) (Or.inl ⟨by rfl, ?_⟩) ?_ ?_
      rotate_left
      · intro w'
        go_simp
        with_reducible rfl
      rotate_left
      · simp only [Act.put, List.setIfInBounds_toArray, List.set_cons_zero, List.set_cons_succ, i64_w, i32_w]
        rfl
      refine pure_ (i := 36) (N := some 71) (v := ?_) (a' := ?_) (mk 33 [35, 36]) rfl rfl (any_of HT_.out (by kernel_rfl)) (fun _ _ _ h => h) (Or.inl ⟨by rfl, ?_⟩) ?_ ?_
      rotate_left
      · intro w'
        go_simp
        with_reducible rfl
      rotate_left
      · simp only [Act.put, List.setIfInBounds_toArray, List.set_cons_zero, List.set_cons_succ, i64_w, i32_w]
        rfl
      refine pure_ (i := 37) (N := some 72) (v := ?_) (a' := ?_) (mk 33 [35, 36, 37]) rfl rfl (any_of HT_.out (by kernel_rfl)) (fun _ _ _ h => h) (Or.inl ⟨by rfl, ?_⟩) ?_ ?_
      rotate_left
      · intro w'
        go_simp
        with_reducible rfl
      rotate_left
      · simp only [Act.put, List.setIfInBounds_toArray, List.set_cons_zero, List.set_cons_succ, i64_w, i32_w]
        rfl
      refine one_ (i := 33) (N := some 68) (mk 34 [35, 36, 37]) rfl rfl (one_of HT_.out (by kernel_rfl)) (by decide) (fun K hK => ?_)
      refine goes_ Try.func57 (by kernel_rfl) rfl #[.slice (some ad) p.length cb] (by rfl) rfl rfl (by simp; first | done | rfl) ?_
      refine (kern_Turns.calls (some ad) cb p (turnsR p) w6 HP6.out hcb (turns_f p)).mono ?_
      rintro e w7 ⟨rfl, hb⟩
      refine ⟨_, rfl, ?_⟩
      have HX7 := Aside0.mk (blk_below HX6.out hb.below)
      have HR7 := Aside0.mk (Kd.C_below HR6.out hb.below)
      have HP7 := Aside0.mk (Kd.C_below HP6.out hb.below)
      have HB7 := Aside0.mk (below_then HB6.out HB6.out.size hb.below)
      have hpc7 : w7.cell? ad = some (.int .i64 (rd p 0)) := (hb.below.cell (World.block_lt_of_cell? _ _ hpc6)).trans hpc6
      clear HX6 HR6 HB6 hpc6 hb
      refine hK.out _ _ (⟨(blk_cell HX7.out 0).trans rfl, hpc7⟩) (fun hHeld => ?_)
      clear hK K
      refine norm_ (a' := ?_) ?_ ?_
      rotate_left
      · show Act.put _ (some 68) _ = _
        simp only [Act.put, List.setIfInBounds_toArray, List.set_cons_zero, List.set_cons_succ, i64_w, i32_w]
        rfl
      refine pure_ (i := 34) (N := some 69) (v := ?_) (a' := ?_) (mk 38 []) rfl rfl (any_of HT_.out (by kernel_rfl)) (fun _ _ _ h => h) (Or.inl ⟨by rfl, ?_⟩) ?_ ?_
      rotate_left
      · intro w'
        go_simp
        with_reducible rfl
      rotate_left
      · simp only [Act.put, List.setIfInBounds_toArray, List.set_cons_zero, List.set_cons_succ, i64_w, i32_w]
        rfl
      refine pure_ (i := 38) (N := some 73) (v := ?_) (a' := ?_) (mk 39 []) rfl rfl (any_of HT_.out (by kernel_rfl)) (fun _ _ _ h => h) (Or.inl ⟨by rfl, ?_⟩) ?_ ?_
      rotate_left
      · intro w'
        go_simp
        with_reducible rfl
      rotate_left
      · simp only [Act.put, List.setIfInBounds_toArray, List.set_cons_zero, List.set_cons_succ, i64_w, i32_w]
        rfl
      refine pure_ (i := 39) (N := some 74) (v := ?_) (a' := ?_) (mk 40 []) rfl rfl (any_of HT_.out (by kernel_rfl)) (fun _ _ _ h => h) (Or.inl ⟨by rfl, ?_⟩) ?_ ?_
      rotate_left
      · intro w'
        go_simp
        with_reducible rfl
      rotate_left
      · simp only [Act.put, List.setIfInBounds_toArray, List.set_cons_zero, List.set_cons_succ, i64_w, i32_w]
        rfl
      refine pure_ (i := 40) (N := some 75) (v := ?_) (a' := ?_) (mk 41 []) rfl rfl (any_of HT_.out (by kernel_rfl)) (fun _ _ _ h => h) (Or.inl ⟨by rfl, ?_⟩) ?_ ?_
      rotate_left
      · intro w'
        go_simp
        with_reducible rfl
      rotate_left
      · simp only [Act.put, List.setIfInBounds_toArray, List.set_cons_zero, List.set_cons_succ, i64_w, i32_w]
        rfl
      refine take_ (i := 41) (N := some 76) (v := ?_) (a' := ?_) (mk 42 []) rfl rfl (take_ofW HT_.out HW_.out (by kernel_rfl)) (fun _ _ _ h => h) (Or.inl ⟨by rfl, ?_⟩) hHeld ?_ ?_
      rotate_left
      · intro w' s0
        go_simp
        with_reducible rfl
      rotate_left
      · simp only [Act.put, List.setIfInBounds_toArray, List.set_cons_zero, List.set_cons_succ, i64_w, i32_w]
        rfl
      refine pure_ (i := 42) (N := some 77) (v := ?_) (a' := ?_) (mk 43 []) rfl rfl (any_of HT_.out (by kernel_rfl)) (fun _ _ _ h => h) (Or.inl ⟨by rfl, ?_⟩) ?_ ?_
      rotate_left
      · intro w'
        go_simp
        with_reducible rfl
      rotate_left
      · simp only [Act.put, List.setIfInBounds_toArray, List.set_cons_zero, List.set_cons_succ, i64_w, i32_w]
        rfl
      refine pure_ (i := 43) (N := some 78) (v := ?_) (a' := ?_) (mk 44 []) rfl rfl (any_of HT_.out (by kernel_rfl)) (fun _ _ _ h => h) (Or.inl ⟨by rfl, ?_⟩) ?_ ?_
      rotate_left
      · intro w'
        go_simp
        with_reducible rfl
      rotate_left
      · simp only [Act.put, List.setIfInBounds_toArray, List.set_cons_zero, List.set_cons_succ, i64_w, i32_w]
        rfl
      refine pure_ (i := 44) (N := some 79) (v := ?_) (a' := ?_) (mk 45 []) rfl rfl (any_of HT_.out (by kernel_rfl)) (fun _ _ _ h => h) (Or.inl ⟨by rfl, ?_⟩) ?_ ?_
      rotate_left
      · intro w'
        go_simp
        with_reducible rfl
      rotate_left
      · simp only [Act.put, List.setIfInBounds_toArray, List.set_cons_zero, List.set_cons_succ, i64_w, i32_w]
        rfl
      refine pure_ (i := 45) (N := some 80) (v := undef) (a' := ?_) (mk 46 []) rfl rfl (any_of HT_.out (by kernel_rfl)) (fun _ _ _ h => h) (Or.inr ⟨by rfl, rfl⟩) ?_ ?_
      rotate_left
      · simp only [Act.put, List.setIfInBounds_toArray, List.set_cons_zero, List.set_cons_succ, i64_w, i32_w]
        rfl
      refine pure_ (i := 46) (N := some 81) (v := undef) (a' := ?_) (mk 47 []) rfl rfl (any_of HT_.out (by kernel_rfl)) (fun _ _ _ h => h) (Or.inr ⟨by rfl, rfl⟩) ?_ ?_
      rotate_left
      · simp only [Act.put, List.setIfInBounds_toArray, List.set_cons_zero, List.set_cons_succ, i64_w, i32_w]
        rfl
      refine pure_ (i := 47) (N := some 82) (v := undef) (a' := ?_) (mk 48 []) rfl rfl (any_of HT_.out (by kernel_rfl)) (fun _ _ _ h => h) (Or.inr ⟨by rfl, rfl⟩) ?_ ?_
      rotate_left
      · simp only [Act.put, List.setIfInBounds_toArray, List.set_cons_zero, List.set_cons_succ, i64_w, i32_w]
        rfl
      refine pure_ (i := 48) (N := some 83) (v := undef) (a' := ?_) (mk 49 []) rfl rfl (any_of HT_.out (by kernel_rfl)) (fun _ _ _ h => h) (Or.inr ⟨by rfl, rfl⟩) ?_ ?_
      rotate_left
      · simp only [Act.put, List.setIfInBounds_toArray, List.set_cons_zero, List.set_cons_succ, i64_w, i32_w]
        rfl
      refine pure_ (i := 49) (N := some 84) (v := ?_) (a' := ?_) (mk 50 []) rfl rfl (any_of HT_.out (by kernel_rfl)) (fun _ _ _ h => h) (Or.inl ⟨by rfl, ?_⟩) ?_ ?_
      rotate_left
      · intro w'
        go_simp
        with_reducible rfl
      rotate_left
      · simp only [Act.put, List.setIfInBounds_toArray, List.set_cons_zero, List.set_cons_succ, i64_w, i32_w]
        rfl
      refine pure_ (i := 50) (N := some 85) (v := ?_) (a' := ?_) (mk 51 []) rfl rfl (any_of HT_.out (by kernel_rfl)) (fun _ _ _ h => h) (Or.inl ⟨by rfl, ?_⟩) ?_ ?_
      rotate_left
      · intro w'
        go_simp
        with_reducible rfl
      rotate_left
      · simp only [Act.put, List.setIfInBounds_toArray, List.set_cons_zero, List.set_cons_succ, i64_w, i32_w]
        rfl
      refine pure_ (i := 51) (N := some 86) (v := ?_) (a' := ?_) (mk 52 []) rfl rfl (any_of HT_.out (by kernel_rfl)) (fun _ _ _ h => h) (Or.inl ⟨by rfl, ?_⟩) ?_ ?_
      rotate_left
      · intro w'
        go_simp
        with_reducible rfl
      rotate_left
      · simp only [Act.put, List.setIfInBounds_toArray, List.set_cons_zero, List.set_cons_succ, i64_w, i32_w]
        rfl
      refine pure_ (i := 52) (N := some 87) (v := ?_) (a' := ?_) (mk 53 []) rfl rfl (any_of HT_.out (by kernel_rfl)) (fun _ _ _ h => h) (Or.inl ⟨by rfl, ?_⟩) ?_ ?_
      rotate_left
      · intro w'
        go_simp
        with_reducible rfl
      rotate_left
      · simp only [Act.put, List.setIfInBounds_toArray, List.set_cons_zero, List.set_cons_succ, i64_w, i32_w]
        rfl
      refine take_ (i := 53) (N := some 88) (v := ?_) (a' := ?_) (mk 54 []) rfl rfl (take_ofW HT_.out HW_.out (by kernel_rfl)) (fun _ _ _ h => h) (Or.inl ⟨by rfl, ?_⟩) hHeld ?_ ?_
      rotate_left
      · intro w' s0
        go_simp
        with_reducible rfl
      rotate_left
      · simp only [Act.put, List.setIfInBounds_toArray, List.set_cons_zero, List.set_cons_succ, i64_w, i32_w]
        rfl
      refine pure_ (i := 54) (N := some 89) (v := ?_) (a' := ?_) (mk 55 []) rfl rfl (any_of HT_.out (by kernel_rfl)) (fun _ _ _ h => h) (Or.inl ⟨by rfl, ?_⟩) ?_ ?_
      rotate_left
      · intro w'
        go_simp
        with_reducible rfl
      rotate_left
      · simp only [Act.put, List.setIfInBounds_toArray, List.set_cons_zero, List.set_cons_succ, i64_w, i32_w]
        rfl
      refine take_ (i := 56) (N := some 91) (v := ?_) (a' := ?_) (mk 55 [56]) rfl rfl (take_ofW HT_.out HW_.out (by kernel_rfl)) (fun _ _ _ h => h) (Or.inl ⟨by rfl, ?_⟩) hHeld ?_ ?_
      rotate_left
      · intro w' s0
        go_simp
        with_reducible rfl
      rotate_left
      · simp only [Act.put, List.setIfInBounds_toArray, List.set_cons_zero, List.set_cons_succ, i64_w, i32_w]
        rfl
      refine pure_ (i := 58) (N := some 93) (v := ?_) (a' := ?_) (mk 55 [56, 58]) rfl rfl (any_of HT_.out (by kernel_rfl)) (fun _ _ _ h => h) (Or.inl ⟨by rfl, ?_⟩) ?_ ?_
      rotate_left
      · intro w'
        go_simp
        with_reducible rfl
      rotate_left
      · simp only [Act.put, List.setIfInBounds_toArray, List.set_cons_zero, List.set_cons_succ, i64_w, i32_w]
        rfl
      refine one_ (i := 55) (N := some 90) (mk 57 [58]) rfl rfl (one_of HT_.out (by kernel_rfl)) (by decide) (fun K hK => ?_)
      refine goes_ Try.func58 (by kernel_rfl) rfl #[.agg #[.slice A L.length c], .slice (some ad) p.length cb] (by rfl) rfl rfl (by simp; first | done | exact ⟨rfl, rfl⟩ | rfl) ?_
      refine (source_calls w7 L A c p (some ad) cb HR7.out HP7.out hg h1).mono ?_
      rintro e w8 ⟨rfl, hb⟩
      refine ⟨_, rfl, ?_⟩
      have HX8 := Aside0.mk (blk_below HX7.out hb)
      have HR8 := Aside0.mk (Kd.C_below HR7.out hb)
      have HP8 := Aside0.mk (Kd.C_below HP7.out hb)
      have HB8 := Aside0.mk (below_then HB7.out HB7.out.size hb)
      have hpc8 : w8.cell? ad = some (.int .i64 (rd p 0)) := (hb.cell (World.block_lt_of_cell? _ _ hpc7)).trans hpc7
      clear HX7 HR7 HB7 hpc7 hb
      refine hK.out _ _ (⟨(blk_cell HX8.out 0).trans rfl, hpc8⟩) (fun hHeld => ?_)
      clear hK K
      refine norm_ (a' := ?_) ?_ ?_
      rotate_left
      · show Act.put _ (some 90) _ = _
        simp only [Act.put, List.setIfInBounds_toArray, List.set_cons_zero, List.set_cons_succ, i64_w, i32_w]
        rfl
      refine one_ (i := 57) (N := some 92) (mk 59 []) rfl rfl (one_of HT_.out (by kernel_rfl)) (by decide) (fun K hK => ?_)
      refine goes_ Try.func16 (by kernel_rfl) rfl #[.agg #[.slice A L.length c]] (by rfl) rfl rfl (by simp; first | done | rfl) ?_
      refine (cohortlaw03_Ref.calls kr0 A c L M w8 HR8.out hc hkr.out).mono ?_
      rintro e w9 ⟨u, rfl, hS, hb⟩
      obtain ⟨A9, c9, hA9, hl9, hC9⟩ := Kd.S_reads hS
      subst hA9
      have HC9 := Aside0.mk hC9
      clear hS hC9
      refine ⟨_, rfl, ?_⟩
      have HX9 := Aside0.mk (blk_below HX8.out hb)
      have HR9 := Aside0.mk (Kd.C_below HR8.out hb)
      have HP9 := Aside0.mk (Kd.C_below HP8.out hb)
      have HB9 := Aside0.mk (below_then HB8.out HB8.out.size hb)
      have hpc9 : w9.cell? ad = some (.int .i64 (rd p 0)) := (hb.cell (World.block_lt_of_cell? _ _ hpc8)).trans hpc8
      clear HX8 HR8 HB8 hpc8 hb
      refine hK.out _ _ (⟨(blk_cell HX9.out 0).trans rfl, hpc9⟩) (fun hHeld => ?_)
      clear hK K
      refine norm_ (a' := ?_) ?_ ?_
      rotate_left
      · show Act.put _ (some 92) _ = _
        simp only [Act.put, List.setIfInBounds_toArray, List.set_cons_zero, List.set_cons_succ, i64_w, i32_w]
        rfl
      refine one_ (i := 59) (N := some 94) (mk 60 []) rfl rfl (one_of HT_.out (by kernel_rfl)) (by decide) (fun K hK => ?_)
      refine goes_ Try.func51 (by kernel_rfl) rfl #[.string ⟨#[98, 102, 115]⟩, .slice A9 M.length c9, .slice (some ad) p.length cb] (by rfl) rfl rfl (by simp; first | done | exact ⟨rfl, rfl, rfl⟩ | rfl) ?_
      refine (cohortref07_Check.calls kb ⟨#[98, 102, 115]⟩ A9 c9 M (some ad) cb p (srcR L p) w9 HC9.out hl9 HP9.out hcb hkb.out).mono ?_
      rintro e w10 ⟨rfl, hb⟩
      refine ⟨_, rfl, ?_⟩
      have HX10 := Aside0.mk (blk_below HX9.out hb)
      have HR10 := Aside0.mk (Kd.C_below HR9.out hb)
      have HP10 := Aside0.mk (Kd.C_below HP9.out hb)
      have HB10 := Aside0.mk (below_then HB9.out HB9.out.size hb)
      have hpc10 : w10.cell? ad = some (.int .i64 (rd p 0)) := (hb.cell (World.block_lt_of_cell? _ _ hpc9)).trans hpc9
      clear HX9 HR9 HB9 hpc9 hb
      refine hK.out _ _ (⟨(blk_cell HX10.out 0).trans rfl, hpc10⟩) (fun hHeld => ?_)
      clear hK K
      refine norm_ (a' := ?_) ?_ ?_
      rotate_left
      · show Act.put _ (some 94) _ = _
        simp only [Act.put, List.setIfInBounds_toArray, List.set_cons_zero, List.set_cons_succ, i64_w, i32_w]
        rfl
      refine pure_ (i := 60) (N := some 95) (v := ?_) (a' := ?_) (mk 61 []) rfl rfl (any_of HT_.out (by kernel_rfl)) (fun _ _ _ h => h) (Or.inl ⟨by rfl, ?_⟩) ?_ ?_
      rotate_left
      · intro w'
        go_simp
        with_reducible rfl
      rotate_left
      · simp only [Act.put, List.setIfInBounds_toArray, List.set_cons_zero, List.set_cons_succ, i64_w, i32_w]
        rfl
      refine pure_ (i := 61) (N := some 96) (v := ?_) (a' := ?_) (mk 62 []) rfl rfl (any_of HT_.out (by kernel_rfl)) (fun _ _ _ h => h) (Or.inl ⟨by rfl, ?_⟩) ?_ ?_
      rotate_left
      · intro w'
        go_simp
        with_reducible rfl
      rotate_left
      · simp only [Act.put, List.setIfInBounds_toArray, List.set_cons_zero, List.set_cons_succ, i64_w, i32_w]
        rfl
      refine pure_ (i := 62) (N := some 6) (v := ?_) (a' := ?_) (mk 63 []) rfl rfl (any_of HT_.out (by kernel_rfl)) (fun _ _ _ h => h) (Or.inl ⟨by rfl, ?_⟩) ?_ ?_
      rotate_left
      · intro w'
        go_simp
        with_reducible rfl
      rotate_left
      · simp only [Act.put, List.setIfInBounds_toArray, List.set_cons_zero, List.set_cons_succ, i64_w, i32_w]
        rfl
      refine done_ (done_of HT_.out (by kernel_rfl)) ?_
      go_wp2_with fail
      go_ret
      exact ⟨by first | rfl | simp, HB10.out⟩

set_option maxHeartbeats 16000000 in
set_option maxRecDepth 100000 in
theorem law_c_true (w : World) (s : ByteArray) (L : List S53) (A : Option Addr) (c : Nat) (p : List Int) (B : Option Addr) (cb : Nat) (hc : L.length ≤ c) (hr : Kd.C k53 w A L.length L) (hp : Kd.C (Kd.int .i64) w B p.length p) (hcb : p.length ≤ cb) (hE : ∀ v ∈ L, v.f2.length ≤ 8796093022208) (h0 : Checks L 0) (h1 : L.length ≤ 256) (hg : Grows L) (hlen : p.length = 1) (hp0 : ¬ rd p 0 < 0) (hown : ownB s = true) :
    Calls Try.prog 10 #[.string s, .agg #[.slice A L.length c], .slice B p.length cb] w fun e w' => e = .returned (.bool true) ∧ Below w.heap.size w w' := by
  have hE' : ∀ v ∈ L, v.f2.length ≤ 9223372036854775806 := fun v hv => by have := hE v hv; omega
  obtain ⟨kc, r, hkc0, hck⟩ := ref_check L hE'
  obtain rfl := hck.one h0
  obtain ⟨kr0, hkr0⟩ := ref_ref L (by omega) hE
  obtain ⟨kb, hkb0⟩ := ref_bfs ⟨#[98, 102, 115]⟩ (by rw [ByteArray.toList_eq]) L h1 p
  obtain ⟨M, hM⟩ : ∃ M, L.map r59 = M := ⟨_, rfl⟩
  obtain ⟨ko, hko0⟩ := ref_own s ((own_iff s).1 hown) L h1 hE' p
  rw [hM] at hko0
  have hko := Aside0.mk hko0
  clear hko0
  rw [hM] at hkc0 hkr0 hkb0
  have hkc := Aside0.mk hkc0
  have hkr := Aside0.mk hkr0
  have hkb := Aside0.mk hkb0
  obtain ⟨cr, hcr0, hcr1⟩ := comb_same s
  have hcr := Aside0.mk hcr0
  have hcr2 := Aside0.mk hcr1
  have hob0 := known_own s
  rw [hown] at hob0
  have hob := Aside0.mk hob0
  obtain ⟨F, hF1, hF2, hF3⟩ := five_own s
  rw [hown] at hF3
  have HF1 := Aside0.mk hF1
  have HF3 := Aside0.mk hF3
  clear hkc0 hkr0 hkb0 hck hcr0 hcr1 hob0 hF1 hF3 hM
  obtain ⟨ad, hB, hpc⟩ := Kd.at_int hp 0 (by omega) (by omega)
  subst hB
  replace hpc : w.cell? ad = some (.int .i64 (rd p 0)) := by simpa [Addr.add] using hpc
  have hlen1 : ((p.length : Int) == 1) = true := beq_iff_eq.mpr (by omega)
  have hlt0 : ((0 : Int) < (p.length : Int)) = True := eq_true (by omega)
  have hltn : (0 < p.length) = True := eq_true (by omega)
  have hlt1 : decide ((0 : Int) < (p.length : Int)) = true := decide_eq_true (by omega)
  have hln0 : ((p.length : Int) == 0) = false := beq_eq_false_iff_ne.mpr (by omega)
  have hbn : (noneR p == 0) = false := by
    unfold noneR
    rw [if_neg (by omega)]
    rfl
  obtain ⟨bt, hbt0⟩ : ∃ bt, decide (rd p 0 ≤ 100) = bt := ⟨_, rfl⟩
  have hbt : (turnsR p == 0) = bt := by
    rw [← hbt0]
    unfold turnsR
    rw [if_pos hlen, if_neg hp0]
    by_cases h : rd p 0 > 100
    · rw [if_pos h, decide_eq_false (by omega)]
      rfl
    · rw [if_neg h, decide_eq_true (by omega)]
      rfl
  have hq1 : decide (0 ≤ rd p 0) = true := decide_eq_true (by omega)
  clear hlen
  have HX1 := Aside0.mk (blk_new w (.cells #[.slice A L.length c] 24))
  have HB1 := Aside0.mk (below_alloc (Below.refl w.heap.size w) (.cells #[.slice A L.length c] 24))
  have HR1 := Aside0.mk (Kd.C_alloc hr (.cells #[.slice A L.length c] 24))
  have HP1 := Aside0.mk (Kd.C_alloc hp (.cells #[.slice A L.length c] 24))
  clear hr hp
  go_enter Try.func10, Try.ntmps10
  go_wp2_with fail
  generalize w.alloc (.cells #[.slice A L.length c] 24) = w1 at HX1 HB1 HR1 HP1 ⊢
  refine (cohortlaw03_Ref.calls kr0 A c L M w1 HR1.out hc hkr.out).mono ?_
  rintro e w2 ⟨u2, rfl, hS2, hb2⟩
  obtain ⟨A2, c2, hA2, hl2, hC2⟩ := Kd.S_reads hS2
  subst hA2
  have HX2 := Aside0.mk (blk_below HX1.out hb2)
  have HR2 := Aside0.mk (Kd.C_below HR1.out hb2)
  have HP2 := Aside0.mk (Kd.C_below HP1.out hb2)
  have HB2 := Aside0.mk (below_then HB1.out HB1.out.size hb2)
  clear hS2 hb2 HX1 HB1 HR1 HP1
  go_wp2_with fail
  refine (cohortref03_Check.calls kc A2 c2 M 0 w2 hC2 hl2 hkc.out).mono ?_
  rintro e w3 ⟨rfl, hd⟩
  have HX3 := Aside0.mk (blk_below HX2.out hd.below)
  have HR3 := Aside0.mk (Kd.C_below HR2.out hd.below)
  have HP3 := Aside0.mk (Kd.C_below HP2.out hd.below)
  have HB3 := Aside0.mk (below_then HB2.out HB2.out.size hd.below)
  clear hd hC2 HX2 HB2 HR2 HP2
  go_wp2_with fail
  refine (cohortlaw07_five.calls F w3 HF1.out).mono ?_
  rintro e w4 ⟨v16, rfl, hv16, hb4⟩
  have HX4 := Aside0.mk (blk_below HX3.out hb4)
  have HR4 := Aside0.mk (Kd.C_below HR3.out hb4)
  have HP4 := Aside0.mk (Kd.C_below HP3.out hb4)
  have HB4 := Aside0.mk (below_then HB3.out HB3.out.size hb4)
  obtain ⟨A16, d16, hA16, _, hC16⟩ := Kd.R_reads hv16
  subst hA16
  have HC16 := Aside0.mk hC16
  clear hv16 hb4 hC16 HX3 HB3 HR3 HP3
  go_wp2_with fail
  go_loopw [7, 18] (fun v7 v18 wr => ∃ k : Nat, v18 = .int .i64 (k : Int) ∧ k ≤ F.length ∧ v7 = .bool ((F.take k).any fun n => n.toList == s.toList) ∧ Aside0 (wr = w4)) (fun _ v18 _ => (F.length - (intOf v18)).toNat)
  case atStart => exact ⟨0, rfl, Nat.zero_le _, rfl, ⟨rfl⟩⟩
  case round =>
    obtain ⟨k, rfl, hk, rfl, hw⟩ := hrel
    obtain rfl := hw.out
    rcases Nat.lt_or_ge k F.length with hlt | hge
    · have hlt5 : ((k : Int) < (F.length : Int)) = True := eq_true (by omega)
      obtain ⟨adf, hAf, hy⟩ := Kd.at_string HC16.out (k : Int) (by omega) (by omega)
      subst hAf
      rw [Int.toNat_natCast] at hy
      have hsn : ((F.take (k + 1)).any fun n => n.toList == s.toList) = (((F.take k).any fun n => n.toList == s.toList) || ((rdOf ByteArray.empty F (k : Int)).toList == s.toList)) := any_snoc F s k hlt
      have HSN := Aside0.mk hsn
      clear hsn
      generalize rdOf ByteArray.empty F (k : Int) = sk at hy HSN
      generalize ((F.take k).any fun n => n.toList == s.toList) = bo at HSN ⊢
      cases bo
      · go_wp2_with fail
        go_roundw
        case rel => exact ⟨k + 1, by go_num, by omega, by rw [HSN.out]; rfl, ⟨by trivial⟩⟩
        case measure => simp [intOf]; omega
      · go_wp2_with fail
        go_roundw
        case rel => exact ⟨k + 1, by go_num, by omega, by rw [HSN.out]; rfl, ⟨by trivial⟩⟩
        case measure => simp [intOf]; omega
    · have hk1 : k = F.length := by omega
      subst hk1
      have hlt5 : ((F.length : Int) < (F.length : Int)) = False := eq_false (by omega)
      rw [List.take_length, HF3.out]
      have HXf := HX4
      have HBf := HB4
      have HRf := HR4
      have HPf := HP4
      clear HX4 HB4 HR4 HP4 HC16 hw
      obtain ⟨wf, hwf⟩ : ∃ wf, wr = wf := ⟨_, rfl⟩
      subst hwf
      have hcf : wr.cell? ⟨w.heap.size, 0, none⟩ = some (.slice A L.length c) := (blk_cell HXf.out 0).trans rfl
      go_wp2_with fail
      clear hcf
      refine (cohortlaw03_Ref.calls kr0 A c L M wr HRf.out hc hkr.out).mono ?_
      rintro e wg ⟨ug, rfl, hSg, hbg⟩
      obtain ⟨Ag, cg, hAg, hlg, hCg⟩ := Kd.S_reads hSg
      subst hAg
      have HXg := Aside0.mk (blk_below HXf.out hbg)
      have HRg := Aside0.mk (Kd.C_below HRf.out hbg)
      have HPg := Aside0.mk (Kd.C_below HPf.out hbg)
      have HBg := Aside0.mk (below_then HBf.out HBf.out.size hbg)
      clear hSg hbg HXf HRf HPf HBf
      go_wp2_with fail
      refine (cohortref07_Check.calls ko s Ag cg M (some ad) cb p (kr s L p) wg hCg hlg HPg.out hcb hko.out).mono ?_
      rintro e wh ⟨rfl, hbh⟩
      have HXh := Aside0.mk (blk_below HXg.out hbh)
      have HRh := Aside0.mk (Kd.C_below HRg.out hbh)
      have HPh := Aside0.mk (Kd.C_below HPg.out hbh)
      have HBh := Aside0.mk (below_then HBg.out HBg.out.size hbh)
      clear hbh hCg HXg HRg HPg HBg
      go_wp2_with fail
      have HX0 := Aside0.mk (blk_drew HXh.out)
      have HR0 := Aside0.mk (Kd.C_drew HRh.out)
      have HP0 := Aside0.mk (Kd.C_drew HPh.out)
      have HB0 := Aside0.mk (below_drew1 HBh.out)
      have hpc0 : wh.drew.cell? ad = some (.int .i64 (rd p 0)) := (HB0.out.cell (World.block_lt_of_cell? _ _ hpc)).trans hpc
      refine start_ (n := 63) (S := fun w' => w'.cell? ⟨w.heap.size, 0, none⟩ = some (.slice A L.length c) ∧ w'.cell? ad = some (.int .i64 (rd p 0))) (ds := []) (mk 0 []) (by kernel_rfl) rfl (by kernel_rfl) (⟨(blk_cell HX0.out 0).trans rfl, hpc0⟩) (fun hHeld => ?_)
      refine with_tabW tab12 bits12 (fun HT_ HW_ => ?_)
      clear HXh HRh HPh HBh
      generalize wh.drew = w0 at HX0 HR0 HP0 HB0 hHeld hpc0 ⊢
      refine one_ (i := 0) (N := some 35) (mk 1 []) rfl rfl (one_of HT_.out (by kernel_rfl)) (by decide) (fun K hK => ?_)
      refine goes_ Try.func44 (by kernel_rfl) rfl #[] (by rfl) rfl rfl (by simp) ?_
      refine (AwakeK.awake_calls w0).mono ?_
      rintro e w1 ⟨rfl, hb⟩
      refine ⟨_, rfl, ?_⟩
      have HX1 := Aside0.mk (blk_below HX0.out hb)
      have HR1 := Aside0.mk (Kd.C_below HR0.out hb)
      have HP1 := Aside0.mk (Kd.C_below HP0.out hb)
      have HB1 := Aside0.mk (below_then HB0.out HB0.out.size hb)
      have hpc1 : w1.cell? ad = some (.int .i64 (rd p 0)) := (hb.cell (World.block_lt_of_cell? _ _ hpc0)).trans hpc0
      clear HX0 HR0 HB0 hpc0 hb
      refine hK.out _ _ (⟨(blk_cell HX1.out 0).trans rfl, hpc1⟩) (fun hHeld => ?_)
      clear hK K
      refine norm_ (a' := ?_) ?_ ?_
      rotate_left
      · show Act.put _ (some 35) _ = _
        simp only [Act.put, List.setIfInBounds_toArray, List.set_cons_zero, List.set_cons_succ, i64_w, i32_w]
        rfl
      refine pure_ (i := 1) (N := some 36) (v := ?_) (a' := ?_) (mk 2 []) rfl rfl (any_of HT_.out (by kernel_rfl)) (fun _ _ _ h => h) (Or.inl ⟨by rfl, ?_⟩) ?_ ?_
      rotate_left
      · intro w'
        go_simp
        with_reducible rfl
      rotate_left
      · simp only [Act.put, List.setIfInBounds_toArray, List.set_cons_zero, List.set_cons_succ, i64_w, i32_w]
        rfl
      refine pure_ (i := 2) (N := some 37) (v := ?_) (a' := ?_) (mk 3 []) rfl rfl (any_of HT_.out (by kernel_rfl)) (fun _ _ _ h => h) (Or.inl ⟨by rfl, ?_⟩) ?_ ?_
      rotate_left
      · intro w'
        go_simp
        with_reducible rfl
      rotate_left
      · simp only [Act.put, List.setIfInBounds_toArray, List.set_cons_zero, List.set_cons_succ, i64_w, i32_w]
        rfl
      refine take_ (i := 3) (N := some 38) (v := ?_) (a' := ?_) (mk 4 []) rfl rfl (take_ofW HT_.out HW_.out (by kernel_rfl)) (fun _ _ _ h => h) (Or.inl ⟨by rfl, ?_⟩) hHeld ?_ ?_
      rotate_left
      · intro w' s0
        go_simp
        with_reducible rfl
      rotate_left
      · simp only [Act.put, List.setIfInBounds_toArray, List.set_cons_zero, List.set_cons_succ, i64_w, i32_w]
        rfl
      refine pure_ (i := 4) (N := some 39) (v := ?_) (a' := ?_) (mk 5 []) rfl rfl (any_of HT_.out (by kernel_rfl)) (fun _ _ _ h => h) (Or.inl ⟨by rfl, ?_⟩) ?_ ?_
      rotate_left
      · intro w'
        go_simp
        with_reducible rfl
      rotate_left
      · simp only [Act.put, List.setIfInBounds_toArray, List.set_cons_zero, List.set_cons_succ, i64_w, i32_w]
        rfl
      refine pure_ (i := 6) (N := some 41) (v := ?_) (a' := ?_) (mk 5 [6]) rfl rfl (any_of HT_.out (by kernel_rfl)) (fun _ _ _ h => h) (Or.inl ⟨by rfl, ?_⟩) ?_ ?_
      rotate_left
      · intro w'
        go_simp
        with_reducible rfl
      rotate_left
      · simp only [Act.put, List.setIfInBounds_toArray, List.set_cons_zero, List.set_cons_succ, i64_w, i32_w]
        rfl
      refine one_ (i := 5) (N := some 40) (mk 7 []) rfl rfl (one_of HT_.out (by kernel_rfl)) (by decide) (fun K hK => ?_)
      refine goes_ Try.func52 (by kernel_rfl) rfl #[.string s, .agg #[.slice A L.length c], .slice (some ad) p.length cb] (by rfl) rfl rfl (by simp; first | done | exact ⟨rfl, rfl, rfl⟩ | rfl) ?_
      refine (kcheck_calls w1 s L A c p (some ad) cb HR1.out HP1.out hcb hg h1).mono ?_
      rintro e w2 ⟨rfl, hb⟩
      refine ⟨_, rfl, ?_⟩
      have HX2 := Aside0.mk (blk_below HX1.out hb)
      have HR2 := Aside0.mk (Kd.C_below HR1.out hb)
      have HP2 := Aside0.mk (Kd.C_below HP1.out hb)
      have HB2 := Aside0.mk (below_then HB1.out HB1.out.size hb)
      have hpc2 : w2.cell? ad = some (.int .i64 (rd p 0)) := (hb.cell (World.block_lt_of_cell? _ _ hpc1)).trans hpc1
      clear HX1 HR1 HB1 hpc1 hb
      refine hK.out _ _ (⟨(blk_cell HX2.out 0).trans rfl, hpc2⟩) (fun hHeld => ?_)
      clear hK K
      refine norm_ (a' := ?_) ?_ ?_
      rotate_left
      · show Act.put _ (some 40) _ = _
        simp only [Act.put, List.setIfInBounds_toArray, List.set_cons_zero, List.set_cons_succ, i64_w, i32_w]
        rfl
      refine pure_ (i := 7) (N := some 42) (v := ?_) (a' := ?_) (mk 8 []) rfl rfl (any_of HT_.out (by kernel_rfl)) (fun _ _ _ h => h) (Or.inl ⟨by rfl, ?_⟩) ?_ ?_
      rotate_left
      · intro w'
        go_simp
        with_reducible rfl
      rotate_left
      · simp only [Act.put, List.setIfInBounds_toArray, List.set_cons_zero, List.set_cons_succ, i64_w, i32_w]
        rfl
      refine pure_ (i := 8) (N := some 43) (v := ?_) (a' := ?_) (mk 9 []) rfl rfl (any_of HT_.out (by kernel_rfl)) (fun _ _ _ h => h) (Or.inl ⟨by rfl, ?_⟩) ?_ ?_
      rotate_left
      · intro w'
        go_simp
        with_reducible rfl
      rotate_left
      · simp only [Act.put, List.setIfInBounds_toArray, List.set_cons_zero, List.set_cons_succ, i64_w, i32_w]
        rfl
      refine pure_ (i := 9) (N := some 44) (v := ?_) (a' := ?_) (mk 10 []) rfl rfl (any_of HT_.out (by kernel_rfl)) (fun _ _ _ h => h) (Or.inl ⟨by rfl, ?_⟩) ?_ ?_
      rotate_left
      · intro w'
        go_simp
        with_reducible rfl
      rotate_left
      · simp only [Act.put, List.setIfInBounds_toArray, List.set_cons_zero, List.set_cons_succ, i64_w, i32_w]
        rfl
      refine pure_ (i := 10) (N := some 45) (v := ?_) (a' := ?_) (mk 11 []) rfl rfl (any_of HT_.out (by kernel_rfl)) (fun _ _ _ h => h) (Or.inl ⟨by rfl, ?_⟩) ?_ ?_
      rotate_left
      · intro w'
        go_simp
        with_reducible rfl
      rotate_left
      · simp only [Act.put, List.setIfInBounds_toArray, List.set_cons_zero, List.set_cons_succ, i64_w, i32_w]
        rfl
      refine pure_ (i := 12) (N := some 47) (v := ?_) (a' := ?_) (mk 11 [12]) rfl rfl (any_of HT_.out (by kernel_rfl)) (fun _ _ _ h => h) (Or.inl ⟨by rfl, ?_⟩) ?_ ?_
      rotate_left
      · intro w'
        go_simp
        with_reducible rfl
      rotate_left
      · simp only [Act.put, List.setIfInBounds_toArray, List.set_cons_zero, List.set_cons_succ, i64_w, i32_w]
        rfl
      refine one_ (i := 11) (N := some 46) (mk 13 []) rfl rfl (one_of HT_.out (by kernel_rfl)) (by decide) (fun K hK => ?_)
      refine goes_ Try.func53 (by kernel_rfl) rfl #[.string s] (by rfl) rfl rfl (by simp; first | done | rfl) ?_
      refine (kern_Known.calls s true w2 hob.out).mono ?_
      rintro e w3 ⟨rfl, hb⟩
      refine ⟨_, rfl, ?_⟩
      have HX3 := Aside0.mk (blk_below HX2.out hb.below)
      have HR3 := Aside0.mk (Kd.C_below HR2.out hb.below)
      have HP3 := Aside0.mk (Kd.C_below HP2.out hb.below)
      have HB3 := Aside0.mk (below_then HB2.out HB2.out.size hb.below)
      have hpc3 : w3.cell? ad = some (.int .i64 (rd p 0)) := (hb.below.cell (World.block_lt_of_cell? _ _ hpc2)).trans hpc2
      clear HX2 HR2 HB2 hpc2 hb
      refine hK.out _ _ (⟨(blk_cell HX3.out 0).trans rfl, hpc3⟩) (fun hHeld => ?_)
      clear hK K
      refine norm_ (a' := ?_) ?_ ?_
      rotate_left
      · show Act.put _ (some 46) _ = _
        simp only [Act.put, List.setIfInBounds_toArray, List.set_cons_zero, List.set_cons_succ, i64_w, i32_w]
        rfl
      refine pure_ (i := 13) (N := some 48) (v := ?_) (a' := ?_) (mk 14 []) rfl rfl (any_of HT_.out (by kernel_rfl)) (fun _ _ _ h => h) (Or.inl ⟨by rfl, ?_⟩) ?_ ?_
      rotate_left
      · intro w'
        go_simp
        with_reducible rfl
      rotate_left
      · simp only [Act.put, List.setIfInBounds_toArray, List.set_cons_zero, List.set_cons_succ, i64_w, i32_w]
        rfl
      refine pure_ (i := 14) (N := some 49) (v := ?_) (a' := ?_) (mk 15 []) rfl rfl (any_of HT_.out (by kernel_rfl)) (fun _ _ _ h => h) (Or.inl ⟨by rfl, ?_⟩) ?_ ?_
      rotate_left
      · intro w'
        go_simp
        with_reducible rfl
      rotate_left
      · simp only [Act.put, List.setIfInBounds_toArray, List.set_cons_zero, List.set_cons_succ, i64_w, i32_w]
        rfl
      refine pure_ (i := 15) (N := some 50) (v := ?_) (a' := ?_) (mk 16 []) rfl rfl (any_of HT_.out (by kernel_rfl)) (fun _ _ _ h => h) (Or.inl ⟨by rfl, ?_⟩) ?_ ?_
      rotate_left
      · intro w'
        go_simp
        with_reducible rfl
      rotate_left
      · simp only [Act.put, List.setIfInBounds_toArray, List.set_cons_zero, List.set_cons_succ, i64_w, i32_w]
        rfl
      refine pure_ (i := 16) (N := some 51) (v := ?_) (a' := ?_) (mk 17 []) rfl rfl (any_of HT_.out (by kernel_rfl)) (fun _ _ _ h => h) (Or.inl ⟨by rfl, ?_⟩) ?_ ?_
      rotate_left
      · intro w'
        go_simp
        with_reducible rfl
      rotate_left
      · simp only [Act.put, List.setIfInBounds_toArray, List.set_cons_zero, List.set_cons_succ, i64_w, i32_w]
        rfl
      refine pure_ (i := 18) (N := some 53) (v := ?_) (a' := ?_) (mk 17 [18]) rfl rfl (any_of HT_.out (by kernel_rfl)) (fun _ _ _ h => h) (Or.inl ⟨by rfl, ?_⟩) ?_ ?_
      rotate_left
      · intro w'
        go_simp
        with_reducible rfl
      rotate_left
      · simp only [Act.put, List.setIfInBounds_toArray, List.set_cons_zero, List.set_cons_succ, i64_w, i32_w]
        rfl
      refine one_ (i := 17) (N := some 52) (mk 19 []) rfl rfl (one_of HT_.out (by kernel_rfl)) (by decide) (fun K hK => ?_)
      refine goes_ Try.func54 (by kernel_rfl) rfl #[.string s] (by rfl) rfl rfl (by simp; first | done | rfl) ?_
      refine (kern_Combiner.calls 2 s cr w3 hcr.out).mono ?_
      rintro e w4 ⟨rfl, hb⟩
      refine ⟨_, rfl, ?_⟩
      have HX4 := Aside0.mk (blk_below HX3.out hb.below)
      have HR4 := Aside0.mk (Kd.C_below HR3.out hb.below)
      have HP4 := Aside0.mk (Kd.C_below HP3.out hb.below)
      have HB4 := Aside0.mk (below_then HB3.out HB3.out.size hb.below)
      have hpc4 : w4.cell? ad = some (.int .i64 (rd p 0)) := (hb.below.cell (World.block_lt_of_cell? _ _ hpc3)).trans hpc3
      clear HX3 HR3 HB3 hpc3 hb
      refine hK.out _ _ (⟨(blk_cell HX4.out 0).trans rfl, hpc4⟩) (fun hHeld => ?_)
      clear hK K
      refine norm_ (a' := ?_) ?_ ?_
      rotate_left
      · show Act.put _ (some 52) _ = _
        simp only [Act.put, List.setIfInBounds_toArray, List.set_cons_zero, List.set_cons_succ, i64_w, i32_w]
        rfl
      refine one_ (i := 19) (N := some 54) (mk 20 []) rfl rfl (one_of HT_.out (by kernel_rfl)) (by decide) (fun K hK => ?_)
      refine goes_ Try.func55 (by kernel_rfl) rfl #[.string s] (by rfl) rfl rfl (by simp; first | done | rfl) ?_
      refine (cohortref07_Combiner.calls 2 s cr w4 hcr2.out).mono ?_
      rintro e w5 ⟨rfl, hb⟩
      refine ⟨_, rfl, ?_⟩
      have HX5 := Aside0.mk (blk_below HX4.out hb.below)
      have HR5 := Aside0.mk (Kd.C_below HR4.out hb.below)
      have HP5 := Aside0.mk (Kd.C_below HP4.out hb.below)
      have HB5 := Aside0.mk (below_then HB4.out HB4.out.size hb.below)
      have hpc5 : w5.cell? ad = some (.int .i64 (rd p 0)) := (hb.below.cell (World.block_lt_of_cell? _ _ hpc4)).trans hpc4
      clear HX4 HR4 HB4 hpc4 hb
      refine hK.out _ _ (⟨(blk_cell HX5.out 0).trans rfl, hpc5⟩) (fun hHeld => ?_)
      clear hK K
      refine norm_ (a' := ?_) ?_ ?_
      rotate_left
      · show Act.put _ (some 54) _ = _
        simp only [Act.put, List.setIfInBounds_toArray, List.set_cons_zero, List.set_cons_succ, i64_w, i32_w]
        rfl
      refine pure_ (i := 20) (N := some 55) (v := ?_) (a' := ?_) (mk 21 []) rfl rfl (any_of HT_.out (by kernel_rfl)) (fun _ _ _ h => h) (Or.inl ⟨by rfl, ?_⟩) ?_ ?_
      rotate_left
      · intro w'
        go_simp
        with_reducible rfl
      rotate_left
      · simp only [Act.put, List.setIfInBounds_toArray, List.set_cons_zero, List.set_cons_succ, i64_w, i32_w]
        rfl
      refine pure_ (i := 21) (N := some 56) (v := ?_) (a' := ?_) (mk 22 []) rfl rfl (any_of HT_.out (by kernel_rfl)) (fun _ _ _ h => h) (Or.inl ⟨by rfl, ?_⟩) ?_ ?_
      rotate_left
      · intro w'
        go_simp
        with_reducible rfl
      rotate_left
      · simp only [Act.put, List.setIfInBounds_toArray, List.set_cons_zero, List.set_cons_succ, i64_w, i32_w]
        rfl
      refine pure_ (i := 22) (N := some 57) (v := ?_) (a' := ?_) (mk 23 []) rfl rfl (any_of HT_.out (by kernel_rfl)) (fun _ _ _ h => h) (Or.inl ⟨by rfl, ?_⟩) ?_ ?_
      rotate_left
      · intro w'
        go_simp
        with_reducible rfl
      rotate_left
      · simp only [Act.put, List.setIfInBounds_toArray, List.set_cons_zero, List.set_cons_succ, i64_w, i32_w]
        rfl
      refine pure_ (i := 23) (N := some 58) (v := ?_) (a' := ?_) (mk 24 []) rfl rfl (any_of HT_.out (by kernel_rfl)) (fun _ _ _ h => h) (Or.inl ⟨by rfl, ?_⟩) ?_ ?_
      rotate_left
      · intro w'
        go_simp
        with_reducible rfl
      rotate_left
      · simp only [Act.put, List.setIfInBounds_toArray, List.set_cons_zero, List.set_cons_succ, i64_w, i32_w]
        rfl
      refine pure_ (i := 26) (N := some 61) (v := ?_) (a' := ?_) (mk 24 [26]) rfl rfl (any_of HT_.out (by kernel_rfl)) (fun _ _ _ h => h) (Or.inl ⟨by rfl, ?_⟩) ?_ ?_
      rotate_left
      · intro w'
        go_simp
        with_reducible rfl
      rotate_left
      · simp only [Act.put, List.setIfInBounds_toArray, List.set_cons_zero, List.set_cons_succ, i64_w, i32_w]
        rfl
      refine pure_ (i := 27) (N := some 62) (v := ?_) (a' := ?_) (mk 24 [26, 27]) rfl rfl (any_of HT_.out (by kernel_rfl)) (fun _ _ _ h => h) (Or.inl ⟨by rfl, ?_⟩) ?_ ?_
      rotate_left
      · intro w'
        go_simp
        with_reducible rfl
      rotate_left
      · simp only [Act.put, List.setIfInBounds_toArray, List.set_cons_zero, List.set_cons_succ, i64_w, i32_w]
        rfl
      refine pure_ (i := 28) (N := some 63) (v := ?_) (a' := ?_) (mk 24 [26, 27, 28]) rfl rfl (any_of HT_.out (by kernel_rfl)) (fun _ _ _ h => h) (Or.inl ⟨by rfl, ?_⟩) ?_ ?_
      rotate_left
      · intro w'
        go_simp
        with_reducible rfl
      rotate_left
      · simp only [Act.put, List.setIfInBounds_toArray, List.set_cons_zero, List.set_cons_succ, i64_w, i32_w]
        rfl
      refine one_ (i := 24) (N := some 59) (mk 25 [26, 27, 28]) rfl rfl (one_of HT_.out (by kernel_rfl)) (by decide) (fun K hK => ?_)
      refine goes_ Try.func56 (by kernel_rfl) rfl #[.slice (some ad) p.length cb] (by rfl) rfl rfl (by simp; first | done | rfl) ?_
      refine (kern_None.calls (some ad) cb p (noneR p) w5 HP5.out hcb (none_f p)).mono ?_
      rintro e w6 ⟨rfl, hb⟩
      refine ⟨_, rfl, ?_⟩
      have HX6 := Aside0.mk (blk_below HX5.out hb.below)
      have HR6 := Aside0.mk (Kd.C_below HR5.out hb.below)
      have HP6 := Aside0.mk (Kd.C_below HP5.out hb.below)
      have HB6 := Aside0.mk (below_then HB5.out HB5.out.size hb.below)
      have hpc6 : w6.cell? ad = some (.int .i64 (rd p 0)) := (hb.below.cell (World.block_lt_of_cell? _ _ hpc5)).trans hpc5
      clear HX5 HR5 HB5 hpc5 hb
      refine hK.out _ _ (⟨(blk_cell HX6.out 0).trans rfl, hpc6⟩) (fun hHeld => ?_)
      clear hK K
      refine norm_ (a' := ?_) ?_ ?_
      rotate_left
      · show Act.put _ (some 59) _ = _
        simp only [Act.put, List.setIfInBounds_toArray, List.set_cons_zero, List.set_cons_succ, i64_w, i32_w]
        rfl
      refine pure_ (i := 25) (N := some 60) (v := ?_) (a' := ?_) (mk 29 []) rfl rfl (any_of HT_.out (by kernel_rfl)) (fun _ _ _ h => h) (Or.inl ⟨by rfl, ?_⟩) ?_ ?_
      rotate_left
      · intro w'
        go_simp
        with_reducible rfl
      rotate_left
      · simp only [Act.put, List.setIfInBounds_toArray, List.set_cons_zero, List.set_cons_succ, i64_w, i32_w]
        rfl
      refine pure_ (i := 29) (N := some 64) (v := ?_) (a' := ?_) (mk 30 []) rfl rfl (any_of HT_.out (by kernel_rfl)) (fun _ _ _ h => h) (Or.inl ⟨by rfl, ?_⟩) ?_ ?_
      rotate_left
      · intro w'
        go_simp
        with_reducible rfl
      rotate_left
      · simp only [Act.put, List.setIfInBounds_toArray, List.set_cons_zero, List.set_cons_succ, i64_w, i32_w]
        rfl
      refine pure_ (i := 30) (N := some 65) (v := ?_) (a' := ?_) (mk 31 []) rfl rfl (any_of HT_.out (by kernel_rfl)) (fun _ _ _ h => h) (Or.inl ⟨by rfl, ?_⟩) ?_ ?_
      rotate_left
      · intro w'
        go_simp
        with_reducible rfl
      rotate_left
      · simp only [Act.put, List.setIfInBounds_toArray, List.set_cons_zero, List.set_cons_succ, i64_w, i32_w]
        rfl
      refine pure_ (i := 31) (N := some 66) (v := ?_) (a' := ?_) (mk 32 []) rfl rfl (any_of HT_.out (by kernel_rfl)) (fun _ _ _ h => h) (Or.inl ⟨by rfl, ?_⟩) ?_ ?_
      rotate_left
      · intro w'
        go_simp
        with_reducible rfl
      rotate_left
      · simp only [Act.put, List.setIfInBounds_toArray, List.set_cons_zero, List.set_cons_succ, i64_w, i32_w]
        rfl
      refine pure_ (i := 32) (N := some 67) (v := ?_) (a' := ?_) (mk 33 []) rfl rfl (any_of HT_.out (by kernel_rfl)) (fun _ _ _ h => h) (Or.inl ⟨by rfl, ?_⟩) ?_ ?_
      rotate_left
      · intro w'
        go_simp
        with_reducible rfl
      rotate_left
      · simp only [Act.put, List.setIfInBounds_toArray, List.set_cons_zero, List.set_cons_succ, i64_w, i32_w]
        rfl
      refine pure_ (i := 35) (N := some 70) (v := ?_) (a' := ?_) (mk 33 [35]) rfl rfl (any_of HT_.out (by kernel_rfl)) (fun _ _ _ h => h) (Or.inl ⟨by rfl, ?_⟩) ?_ ?_
      rotate_left
      · intro w'
        go_simp
        with_reducible rfl
      rotate_left
      · simp only [Act.put, List.setIfInBounds_toArray, List.set_cons_zero, List.set_cons_succ, i64_w, i32_w]
        rfl
      refine pure_ (i := 36) (N := some 71) (v := ?_) (a' := ?_) (mk 33 [35, 36]) rfl rfl (any_of HT_.out (by kernel_rfl)) (fun _ _ _ h => h) (Or.inl ⟨by rfl, ?_⟩) ?_ ?_
      rotate_left
      · intro w'
        go_simp
        with_reducible rfl
      rotate_left
      · simp only [Act.put, List.setIfInBounds_toArray, List.set_cons_zero, List.set_cons_succ, i64_w, i32_w]
        rfl
      refine pure_ (i := 37) (N := some 72) (v := ?_) (a' := ?_) (mk 33 [35, 36, 37]) rfl rfl (any_of HT_.out (by kernel_rfl)) (fun _ _ _ h => h) (Or.inl ⟨by rfl, ?_⟩) ?_ ?_
      rotate_left
      · intro w'
        go_simp
        with_reducible rfl
      rotate_left
      · simp only [Act.put, List.setIfInBounds_toArray, List.set_cons_zero, List.set_cons_succ, i64_w, i32_w]
        rfl
      refine one_ (i := 33) (N := some 68) (mk 34 [35, 36, 37]) rfl rfl (one_of HT_.out (by kernel_rfl)) (by decide) (fun K hK => ?_)
      refine goes_ Try.func57 (by kernel_rfl) rfl #[.slice (some ad) p.length cb] (by rfl) rfl rfl (by simp; first | done | rfl) ?_
      refine (kern_Turns.calls (some ad) cb p (turnsR p) w6 HP6.out hcb (turns_f p)).mono ?_
      rintro e w7 ⟨rfl, hb⟩
      refine ⟨_, rfl, ?_⟩
      have HX7 := Aside0.mk (blk_below HX6.out hb.below)
      have HR7 := Aside0.mk (Kd.C_below HR6.out hb.below)
      have HP7 := Aside0.mk (Kd.C_below HP6.out hb.below)
      have HB7 := Aside0.mk (below_then HB6.out HB6.out.size hb.below)
      have hpc7 : w7.cell? ad = some (.int .i64 (rd p 0)) := (hb.below.cell (World.block_lt_of_cell? _ _ hpc6)).trans hpc6
      clear HX6 HR6 HB6 hpc6 hb
      refine hK.out _ _ (⟨(blk_cell HX7.out 0).trans rfl, hpc7⟩) (fun hHeld => ?_)
      clear hK K
      refine norm_ (a' := ?_) ?_ ?_
      rotate_left
      · show Act.put _ (some 68) _ = _
        simp only [Act.put, List.setIfInBounds_toArray, List.set_cons_zero, List.set_cons_succ, i64_w, i32_w]
        rfl
      refine pure_ (i := 34) (N := some 69) (v := ?_) (a' := ?_) (mk 38 []) rfl rfl (any_of HT_.out (by kernel_rfl)) (fun _ _ _ h => h) (Or.inl ⟨by rfl, ?_⟩) ?_ ?_
      rotate_left
      · intro w'
        go_simp
        with_reducible rfl
      rotate_left
      · simp only [Act.put, List.setIfInBounds_toArray, List.set_cons_zero, List.set_cons_succ, i64_w, i32_w]
        rfl
      refine pure_ (i := 38) (N := some 73) (v := ?_) (a' := ?_) (mk 39 []) rfl rfl (any_of HT_.out (by kernel_rfl)) (fun _ _ _ h => h) (Or.inl ⟨by rfl, ?_⟩) ?_ ?_
      rotate_left
      · intro w'
        go_simp
        with_reducible rfl
      rotate_left
      · simp only [Act.put, List.setIfInBounds_toArray, List.set_cons_zero, List.set_cons_succ, i64_w, i32_w]
        rfl
      refine pure_ (i := 39) (N := some 74) (v := ?_) (a' := ?_) (mk 40 []) rfl rfl (any_of HT_.out (by kernel_rfl)) (fun _ _ _ h => h) (Or.inl ⟨by rfl, ?_⟩) ?_ ?_
      rotate_left
      · intro w'
        go_simp
        with_reducible rfl
      rotate_left
      · simp only [Act.put, List.setIfInBounds_toArray, List.set_cons_zero, List.set_cons_succ, i64_w, i32_w]
        rfl
      refine pure_ (i := 40) (N := some 75) (v := ?_) (a' := ?_) (mk 41 []) rfl rfl (any_of HT_.out (by kernel_rfl)) (fun _ _ _ h => h) (Or.inl ⟨by rfl, ?_⟩) ?_ ?_
      rotate_left
      · intro w'
        go_simp
        with_reducible rfl
      rotate_left
      · simp only [Act.put, List.setIfInBounds_toArray, List.set_cons_zero, List.set_cons_succ, i64_w, i32_w]
        rfl
      refine take_ (i := 41) (N := some 76) (v := ?_) (a' := ?_) (mk 42 []) rfl rfl (take_ofW HT_.out HW_.out (by kernel_rfl)) (fun _ _ _ h => h) (Or.inl ⟨by rfl, ?_⟩) hHeld ?_ ?_
      rotate_left
      · intro w' s0
        go_simp
        with_reducible rfl
      rotate_left
      · simp only [Act.put, List.setIfInBounds_toArray, List.set_cons_zero, List.set_cons_succ, i64_w, i32_w]
        rfl
      refine pure_ (i := 42) (N := some 77) (v := ?_) (a' := ?_) (mk 43 []) rfl rfl (any_of HT_.out (by kernel_rfl)) (fun _ _ _ h => h) (Or.inl ⟨by rfl, ?_⟩) ?_ ?_
      rotate_left
      · intro w'
        go_simp
        with_reducible rfl
      rotate_left
      · simp only [Act.put, List.setIfInBounds_toArray, List.set_cons_zero, List.set_cons_succ, i64_w, i32_w]
        rfl
      refine pure_ (i := 43) (N := some 78) (v := ?_) (a' := ?_) (mk 44 []) rfl rfl (any_of HT_.out (by kernel_rfl)) (fun _ _ _ h => h) (Or.inl ⟨by rfl, ?_⟩) ?_ ?_
      rotate_left
      · intro w'
        go_simp
        with_reducible rfl
      rotate_left
      · simp only [Act.put, List.setIfInBounds_toArray, List.set_cons_zero, List.set_cons_succ, i64_w, i32_w]
        rfl
      refine pure_ (i := 44) (N := some 79) (v := ?_) (a' := ?_) (mk 45 []) rfl rfl (any_of HT_.out (by kernel_rfl)) (fun _ _ _ h => h) (Or.inl ⟨by rfl, ?_⟩) ?_ ?_
      rotate_left
      · intro w'
        go_simp
        with_reducible rfl
      rotate_left
      · simp only [Act.put, List.setIfInBounds_toArray, List.set_cons_zero, List.set_cons_succ, i64_w, i32_w]
        rfl
      refine pure_ (i := 45) (N := some 80) (v := ?_) (a' := ?_) (mk 46 []) rfl rfl (any_of HT_.out (by kernel_rfl)) (fun _ _ _ h => h) (Or.inl ⟨by rfl, ?_⟩) ?_ ?_
      rotate_left
      · intro w'
        go_simp
        with_reducible rfl
      rotate_left
      · simp only [Act.put, List.setIfInBounds_toArray, List.set_cons_zero, List.set_cons_succ, i64_w, i32_w]
        rfl
      refine pure_ (i := 46) (N := some 81) (v := ?_) (a' := ?_) (mk 47 []) rfl rfl (any_of HT_.out (by kernel_rfl)) (fun _ _ _ h => h) (Or.inl ⟨by rfl, ?_⟩) ?_ ?_
      rotate_left
      · intro w'
        go_simp
        with_reducible rfl
      rotate_left
      · simp only [Act.put, List.setIfInBounds_toArray, List.set_cons_zero, List.set_cons_succ, i64_w, i32_w]
        rfl
      refine take_ (i := 47) (N := some 82) (v := ?_) (a' := ?_) (mk 48 []) rfl rfl (take_ofW HT_.out HW_.out (by kernel_rfl)) (fun _ _ _ h => h) (Or.inl ⟨by rfl, ?_⟩) hHeld ?_ ?_
      rotate_left
      · intro w' s0
        go_simp
        with_reducible rfl
      rotate_left
      · simp only [Act.put, List.setIfInBounds_toArray, List.set_cons_zero, List.set_cons_succ, i64_w, i32_w]
        rfl
      refine pure_ (i := 48) (N := some 83) (v := ?_) (a' := ?_) (mk 49 []) rfl rfl (any_of HT_.out (by kernel_rfl)) (fun _ _ _ h => h) (Or.inl ⟨by rfl, ?_⟩) ?_ ?_
      rotate_left
      · intro w'
        go_simp
        with_reducible rfl
      rotate_left
      · simp only [Act.put, List.setIfInBounds_toArray, List.set_cons_zero, List.set_cons_succ, i64_w, i32_w]
        rfl
      refine pure_ (i := 49) (N := some 84) (v := ?_) (a' := ?_) (mk 50 []) rfl rfl (any_of HT_.out (by kernel_rfl)) (fun _ _ _ h => h) (Or.inl ⟨by rfl, ?_⟩) ?_ ?_
      rotate_left
      · intro w'
        go_simp
        with_reducible rfl
      rotate_left
      · simp only [Act.put, List.setIfInBounds_toArray, List.set_cons_zero, List.set_cons_succ, i64_w, i32_w]
        rfl
      refine pure_ (i := 50) (N := some 85) (v := ?_) (a' := ?_) (mk 51 []) rfl rfl (any_of HT_.out (by kernel_rfl)) (fun _ _ _ h => h) (Or.inl ⟨by rfl, ?_⟩) ?_ ?_
      rotate_left
      · intro w'
        go_simp
        with_reducible rfl
      rotate_left
      · simp only [Act.put, List.setIfInBounds_toArray, List.set_cons_zero, List.set_cons_succ, i64_w, i32_w]
        rfl
      refine pure_ (i := 51) (N := some 86) (v := ?_) (a' := ?_) (mk 52 []) rfl rfl (any_of HT_.out (by kernel_rfl)) (fun _ _ _ h => h) (Or.inl ⟨by rfl, ?_⟩) ?_ ?_
      rotate_left
      · intro w'
        go_simp
        with_reducible rfl
      rotate_left
      · simp only [Act.put, List.setIfInBounds_toArray, List.set_cons_zero, List.set_cons_succ, i64_w, i32_w]
        rfl
      refine pure_ (i := 52) (N := some 87) (v := ?_) (a' := ?_) (mk 53 []) rfl rfl (any_of HT_.out (by kernel_rfl)) (fun _ _ _ h => h) (Or.inl ⟨by rfl, ?_⟩) ?_ ?_
      rotate_left
      · intro w'
        go_simp
        with_reducible rfl
      rotate_left
      · simp only [Act.put, List.setIfInBounds_toArray, List.set_cons_zero, List.set_cons_succ, i64_w, i32_w]
        rfl
      refine take_ (i := 53) (N := some 88) (v := ?_) (a' := ?_) (mk 54 []) rfl rfl (take_ofW HT_.out HW_.out (by kernel_rfl)) (fun _ _ _ h => h) (Or.inl ⟨by rfl, ?_⟩) hHeld ?_ ?_
      rotate_left
      · intro w' s0
        go_simp
        with_reducible rfl
      rotate_left
      · simp only [Act.put, List.setIfInBounds_toArray, List.set_cons_zero, List.set_cons_succ, i64_w, i32_w]
        rfl
      refine pure_ (i := 54) (N := some 89) (v := ?_) (a' := ?_) (mk 55 []) rfl rfl (any_of HT_.out (by kernel_rfl)) (fun _ _ _ h => h) (Or.inl ⟨by rfl, ?_⟩) ?_ ?_
      rotate_left
      · intro w'
        go_simp
        with_reducible rfl
      rotate_left
      · simp only [Act.put, List.setIfInBounds_toArray, List.set_cons_zero, List.set_cons_succ, i64_w, i32_w]
        rfl
      refine take_ (i := 56) (N := some 91) (v := ?_) (a' := ?_) (mk 55 [56]) rfl rfl (take_ofW HT_.out HW_.out (by kernel_rfl)) (fun _ _ _ h => h) (Or.inl ⟨by rfl, ?_⟩) hHeld ?_ ?_
      rotate_left
      · intro w' s0
        go_simp
        with_reducible rfl
      rotate_left
      · simp only [Act.put, List.setIfInBounds_toArray, List.set_cons_zero, List.set_cons_succ, i64_w, i32_w]
        rfl
      refine pure_ (i := 58) (N := some 93) (v := ?_) (a' := ?_) (mk 55 [56, 58]) rfl rfl (any_of HT_.out (by kernel_rfl)) (fun _ _ _ h => h) (Or.inl ⟨by rfl, ?_⟩) ?_ ?_
      rotate_left
      · intro w'
        go_simp
        with_reducible rfl
      rotate_left
      · simp only [Act.put, List.setIfInBounds_toArray, List.set_cons_zero, List.set_cons_succ, i64_w, i32_w]
        rfl
      refine one_ (i := 55) (N := some 90) (mk 57 [58]) rfl rfl (one_of HT_.out (by kernel_rfl)) (by decide) (fun K hK => ?_)
      refine goes_ Try.func58 (by kernel_rfl) rfl #[.agg #[.slice A L.length c], .slice (some ad) p.length cb] (by rfl) rfl rfl (by simp; first | done | exact ⟨rfl, rfl⟩ | rfl) ?_
      refine (source_calls w7 L A c p (some ad) cb HR7.out HP7.out hg h1).mono ?_
      rintro e w8 ⟨rfl, hb⟩
      refine ⟨_, rfl, ?_⟩
      have HX8 := Aside0.mk (blk_below HX7.out hb)
      have HR8 := Aside0.mk (Kd.C_below HR7.out hb)
      have HP8 := Aside0.mk (Kd.C_below HP7.out hb)
      have HB8 := Aside0.mk (below_then HB7.out HB7.out.size hb)
      have hpc8 : w8.cell? ad = some (.int .i64 (rd p 0)) := (hb.cell (World.block_lt_of_cell? _ _ hpc7)).trans hpc7
      clear HX7 HR7 HB7 hpc7 hb
      refine hK.out _ _ (⟨(blk_cell HX8.out 0).trans rfl, hpc8⟩) (fun hHeld => ?_)
      clear hK K
      refine norm_ (a' := ?_) ?_ ?_
      rotate_left
      · show Act.put _ (some 90) _ = _
        simp only [Act.put, List.setIfInBounds_toArray, List.set_cons_zero, List.set_cons_succ, i64_w, i32_w]
        rfl
      refine one_ (i := 57) (N := some 92) (mk 59 []) rfl rfl (one_of HT_.out (by kernel_rfl)) (by decide) (fun K hK => ?_)
      refine goes_ Try.func16 (by kernel_rfl) rfl #[.agg #[.slice A L.length c]] (by rfl) rfl rfl (by simp; first | done | rfl) ?_
      refine (cohortlaw03_Ref.calls kr0 A c L M w8 HR8.out hc hkr.out).mono ?_
      rintro e w9 ⟨u, rfl, hS, hb⟩
      obtain ⟨A9, c9, hA9, hl9, hC9⟩ := Kd.S_reads hS
      subst hA9
      have HC9 := Aside0.mk hC9
      clear hS hC9
      refine ⟨_, rfl, ?_⟩
      have HX9 := Aside0.mk (blk_below HX8.out hb)
      have HR9 := Aside0.mk (Kd.C_below HR8.out hb)
      have HP9 := Aside0.mk (Kd.C_below HP8.out hb)
      have HB9 := Aside0.mk (below_then HB8.out HB8.out.size hb)
      have hpc9 : w9.cell? ad = some (.int .i64 (rd p 0)) := (hb.cell (World.block_lt_of_cell? _ _ hpc8)).trans hpc8
      clear HX8 HR8 HB8 hpc8 hb
      refine hK.out _ _ (⟨(blk_cell HX9.out 0).trans rfl, hpc9⟩) (fun hHeld => ?_)
      clear hK K
      refine norm_ (a' := ?_) ?_ ?_
      rotate_left
      · show Act.put _ (some 92) _ = _
        simp only [Act.put, List.setIfInBounds_toArray, List.set_cons_zero, List.set_cons_succ, i64_w, i32_w]
        rfl
      refine one_ (i := 59) (N := some 94) (mk 60 []) rfl rfl (one_of HT_.out (by kernel_rfl)) (by decide) (fun K hK => ?_)
      refine goes_ Try.func51 (by kernel_rfl) rfl #[.string ⟨#[98, 102, 115]⟩, .slice A9 M.length c9, .slice (some ad) p.length cb] (by rfl) rfl rfl (by simp; first | done | exact ⟨rfl, rfl, rfl⟩ | rfl) ?_
      refine (cohortref07_Check.calls kb ⟨#[98, 102, 115]⟩ A9 c9 M (some ad) cb p (srcR L p) w9 HC9.out hl9 HP9.out hcb hkb.out).mono ?_
      rintro e w10 ⟨rfl, hb⟩
      refine ⟨_, rfl, ?_⟩
      have HX10 := Aside0.mk (blk_below HX9.out hb)
      have HR10 := Aside0.mk (Kd.C_below HR9.out hb)
      have HP10 := Aside0.mk (Kd.C_below HP9.out hb)
      have HB10 := Aside0.mk (below_then HB9.out HB9.out.size hb)
      have hpc10 : w10.cell? ad = some (.int .i64 (rd p 0)) := (hb.cell (World.block_lt_of_cell? _ _ hpc9)).trans hpc9
      clear HX9 HR9 HB9 hpc9 hb
      refine hK.out _ _ (⟨(blk_cell HX10.out 0).trans rfl, hpc10⟩) (fun hHeld => ?_)
      clear hK K
      refine norm_ (a' := ?_) ?_ ?_
      rotate_left
      · show Act.put _ (some 94) _ = _
        simp only [Act.put, List.setIfInBounds_toArray, List.set_cons_zero, List.set_cons_succ, i64_w, i32_w]
        rfl
      refine pure_ (i := 60) (N := some 95) (v := ?_) (a' := ?_) (mk 61 []) rfl rfl (any_of HT_.out (by kernel_rfl)) (fun _ _ _ h => h) (Or.inl ⟨by rfl, ?_⟩) ?_ ?_
      rotate_left
      · intro w'
        go_simp
        with_reducible rfl
      rotate_left
      · simp only [Act.put, List.setIfInBounds_toArray, List.set_cons_zero, List.set_cons_succ, i64_w, i32_w]
        rfl
      refine pure_ (i := 61) (N := some 96) (v := ?_) (a' := ?_) (mk 62 []) rfl rfl (any_of HT_.out (by kernel_rfl)) (fun _ _ _ h => h) (Or.inl ⟨by rfl, ?_⟩) ?_ ?_
      rotate_left
      · intro w'
        go_simp
        with_reducible rfl
      rotate_left
      · simp only [Act.put, List.setIfInBounds_toArray, List.set_cons_zero, List.set_cons_succ, i64_w, i32_w]
        rfl
      refine pure_ (i := 62) (N := some 6) (v := ?_) (a' := ?_) (mk 63 []) rfl rfl (any_of HT_.out (by kernel_rfl)) (fun _ _ _ h => h) (Or.inl ⟨by rfl, ?_⟩) ?_ ?_
      rotate_left
      · intro w'
        go_simp
        with_reducible rfl
      rotate_left
      · simp only [Act.put, List.setIfInBounds_toArray, List.set_cons_zero, List.set_cons_succ, i64_w, i32_w]
        rfl
      refine done_ (done_of HT_.out (by kernel_rfl)) ?_
      go_wp2_with fail
      go_ret
      exact ⟨by first | rfl | simp, HB10.out⟩
end Go.Proofs.Ytbeefbhoccdicaa.KLT
