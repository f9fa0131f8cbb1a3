/- MoreChecks: the law's own code, walked. -/
import Derived.Test.YtbeefbhoccdicaaMCheck
import Derived.Test.YtbeefbhoccdicaaKnownM
import Derived.Test.YtbeefbhoccdicaaMExam
import Derived.Shelf.RegionOpen
namespace Go.Proofs.Ytbeefbhoccdicaa.MLaw
open Go.RowKit Go.Shelf Go.Proofs.YtbeefbhoccdicaaW.PrintWords Go.Proofs.YtbeefbhoccdicaaW.PrintLast Go.Proofs.YtbeefbhoccdicaaW.PrintMore Go.Proofs.Ytbeefbhoccdicaa.QGraphReads Go.Proofs.Ytbeefbhoccdicaa.WireNum Go.Proofs.Ytbeefbhoccdicaa.PutG Go.Proofs.Ytbeefbhoccdicaa.FindG Go.Proofs.Ytbeefbhoccdicaa.AllG Go.Proofs.Ytbeefbhoccdicaa.CheckG Go.Proofs.Ytbeefbhoccdicaa.RefSpec Go.Proofs.Ytbeefbhoccdicaa.RefCheck Go.Proofs.Ytbeefbhoccdicaa.RefK Go.Proofs.Ytbeefbhoccdicaa.MCheck Go.Proofs.Ytbeefbhoccdicaa.KnownM
set_option linter.unusedVariables false
set_option linter.unusedSimpArgs false

def T3 : Bool × List (List Nat × List Nat) := (true, [([], []), ([0, 0], [0]), ([1], [1]), ([2, 1, 1], [1, 2]), ([1], [1]), ([4, 3, 1], [1, 4]), ([3, 5, 1], [1, 3, 5]), ([1, 6], [1, 6]), ([7, 5], [7]), ([8], [8]), ([8], [8]), ([8], [8]), ([9, 10, 11, 8, 8], [8, 9, 10, 11]), ([8], [8]), ([8], [8]), ([14, 12, 8], [8, 14]), ([8], [8]), ([13, 15, 16, 15, 8], [8, 13, 15, 16]), ([12, 17, 8], [8, 12, 17]), ([8, 18], [8, 18]), ([19, 17, 0, 1, 2, 3, 4, 5, 6, 7, 8, 9, 10, 11, 12, 13, 14, 15, 16, 17, 18, 19], [19])])
def B3 : List Nat := [0, 1, 3, 7, 3, 31, 63, 127, 255, 511, 511, 511, 4095, 511, 511, 24575, 511, 131071, 262143, 524287, 1048575]
theorem tab3 : rtab .any (opsOf Try.f11 3) = T3 := by kernel_rfl
theorem bits3 : waitsOk T3.2 B3 = true := by kernel_rfl

theorem grows_of {L : List S53} (h : Checks L 0) : L.length ≤ 256 ∧ Grows L := by
  unfold Checks at h
  rcases h with ⟨_, h⟩ | ⟨_, _, h⟩ | ⟨_, _, _, h⟩ | ⟨_, _, _, _, h⟩ | ⟨h1, h2, _⟩
  · cases h
  · cases h
  · cases h
  · cases h
  · exact ⟨h1, h2⟩

set_option maxHeartbeats 8000000 in
set_option maxRecDepth 100000 in
theorem law_calls (w : World) (s : ByteArray) (L : List S53) (A : Option Addr) (c : Nat) (p : List Int) (B : Option Addr) (cb : Nat) (hc : L.length ≤ c) (hr : Kd.C k53 w A L.length L) (hp : Kd.C (Kd.int .i64) w B p.length p) (hcb : p.length ≤ cb) (hl : L.length * 40 ≤ 140737488351232) (hE : ∀ v ∈ L, v.f2.length ≤ 8796093022208) :
    Calls Try.prog 11 #[.string s, .agg #[.slice A L.length c], .slice B p.length cb] w fun e w' => e = .returned (.bool true) ∧ Below w.heap.size w w' := by
  have hE' : ∀ v ∈ L, v.f2.length ≤ 9223372036854775806 := fun v hv => by have := hE v hv; omega
  obtain ⟨kc, r, hkc0, hck⟩ := ref_check L hE'
  obtain ⟨kr0, hkr0⟩ := ref_ref L (by omega) hE
  have hall : L.length ≤ 256 → _ := fun h1 => ref_all s L h1 hE' p
  obtain ⟨M, hM⟩ : ∃ M, L.map r59 = M := ⟨_, rfl⟩
  rw [hM] at hkc0 hkr0 hall
  have hkc := Aside0.mk hkc0
  have hkr := Aside0.mk hkr0
  have hkm := Aside0.mk (known_more s)
  have hkn := Aside0.mk (known_f s (k := 20) (by omega))
  have HALL := Aside0.mk hall
  have HCK := Aside0.mk hck
  have HX1 := Aside0.mk (blk_new w (.cells #[.slice A L.length c] 24))
  have HB1 := Aside0.mk (below_alloc (Below.refl w.heap.size w) (.cells #[.slice A L.length c] 24))
  have HR1 := Aside0.mk (Kd.C_alloc hr (.cells #[.slice A L.length c] 24))
  have HP1 := Aside0.mk (Kd.C_alloc hp (.cells #[.slice A L.length c] 24))
  clear hr hp hkc0 hkr0 hall hck hM
  go_enter Try.func11, Try.ntmps11
  go_wp2_with fail
  generalize w.alloc (.cells #[.slice A L.length c] 24) = w1 at HX1 HB1 HR1 HP1 ⊢
  refine (cohortlaw03_Ref.calls kr0 A c L M w1 HR1.out hc hkr.out).mono ?_
  rintro e w2 ⟨u2, rfl, hS2, hb2⟩
  obtain ⟨A2, c2, hA2, hl2, hC2⟩ := Kd.S_reads hS2
  subst hA2
  have HX2 := Aside0.mk (blk_below HX1.out hb2)
  have HR2 := Aside0.mk (Kd.C_below HR1.out hb2)
  have HP2 := Aside0.mk (Kd.C_below HP1.out hb2)
  have HB2 := Aside0.mk (below_then HB1.out HB1.out.size hb2)
  clear hS2 hb2 HX1 HB1 HR1 HP1
  go_wp2_with fail
  refine (cohortref03_Check.calls kc A2 c2 M r w2 hC2 hl2 hkc.out).mono ?_
  rintro e w3 ⟨rfl, hd⟩
  have HX3 := Aside0.mk (blk_below HX2.out hd.below)
  have HR3 := Aside0.mk (Kd.C_below HR2.out hd.below)
  have HP3 := Aside0.mk (Kd.C_below HP2.out hd.below)
  have HB3 := Aside0.mk (below_then HB2.out HB2.out.size hd.below)
  clear hd hC2 HX2 HB2 HR2 HP2
  by_cases h0 : r = 0
  case neg =>
    have hbad : (r != 0) = true := bne_iff_ne.2 h0
    clear h0
    go_wp2_with fail
    refine (Awake8.awake_calls w3).mono ?_
    rintro e w4 ⟨rfl, hb4⟩
    have HB4 := Aside0.mk (below_then HB3.out HB3.out.size hb4)
    clear hb4
    go_wp2_with fail
    go_ret
    exact ⟨by first | rfl | simp, HB4.out⟩
  subst h0
  obtain ⟨h1, hg⟩ := grows_of HCK.out
  obtain ⟨ka, hka0⟩ := HALL.out h1
  have hka := Aside0.mk hka0
  clear hka0
  go_wp2_with fail
  have HX0 := Aside0.mk (blk_drew HX3.out)
  have HR0 := Aside0.mk (Kd.C_drew HR3.out)
  have HP0 := Aside0.mk (Kd.C_drew HP3.out)
  have HB0 := Aside0.mk (below_drew1 HB3.out)
  clear HX3 HR3 HP3 HB3
  refine start_ (n := 21) (S := fun w' => w'.cell? ⟨w.heap.size, 0, none⟩ = some (.slice A L.length c)) (ds := []) #[false, false, false, false, false, false, false, false, false, false, false, false, false, false, false, false, false, false, false, false, false] (by kernel_rfl) rfl rfl ((blk_cell HX0.out 0).trans rfl) (fun hHeld => ?_)
  refine with_tabW tab3 bits3 (fun HT_ HW_ => ?_)
  generalize w3.drew = w0 at HX0 HR0 HP0 HB0 hHeld ⊢
  refine one_ (i := 0) (N := some 12) #[true, false, false, false, false, false, false, false, false, false, false, false, false, false, false, false, false, false, false, false, false] rfl rfl (one_of HT_.out (by kernel_rfl)) (by decide) (fun K hK => ?_)
  refine goes_ Try.func59 (by kernel_rfl) rfl #[] (by rfl) rfl rfl (by simp) ?_
  refine (Awake8.awake_calls w0).mono ?_
  rintro e w10 ⟨rfl, hb⟩
  refine ⟨_, rfl, ?_⟩
  have HX10 := Aside0.mk (blk_below HX0.out hb)
  have HR10 := Aside0.mk (Kd.C_below HR0.out hb)
  have HP10 := Aside0.mk (Kd.C_below HP0.out hb)
  have HB10 := Aside0.mk (below_then HB0.out HB0.out.size hb)
  clear HX0 HR0 HP0 HB0 hb
  refine hK.out _ _ ((blk_cell HX10.out 0).trans rfl) (fun hHeld => ?_)
  clear hK K
  refine norm_ (a' := ?_) ?_ ?_
  rotate_left
  · show Act.put _ (some 12) _ = _
    simp only [Act.put, List.setIfInBounds_toArray, List.set_cons_zero, List.set_cons_succ, i64_w, i32_w]
    rfl
  refine pure_ (i := 1) (N := some 13) (v := ?_) (a' := ?_) #[true, true, false, false, false, false, false, false, false, false, false, false, false, false, false, false, false, false, false, false, false] rfl rfl (any_of HT_.out (by kernel_rfl)) (fun _ _ _ h => h) (Or.inl ⟨by rfl, ?_⟩) ?_ ?_
  rotate_left
  · intro w'
    go_simp
    with_reducible rfl
  rotate_left
  · simp only [Act.put, List.setIfInBounds_toArray, List.set_cons_zero, List.set_cons_succ, i64_w, i32_w]
    rfl
  refine pure_ (i := 2) (N := some 14) (v := ?_) (a' := ?_) #[true, true, true, false, false, false, false, false, false, false, false, false, false, false, false, false, false, false, false, false, false] rfl rfl (any_of HT_.out (by kernel_rfl)) (fun _ _ _ h => h) (Or.inl ⟨by rfl, ?_⟩) ?_ ?_
  rotate_left
  · intro w'
    go_simp
    with_reducible rfl
  rotate_left
  · simp only [Act.put, List.setIfInBounds_toArray, List.set_cons_zero, List.set_cons_succ, i64_w, i32_w]
    rfl
  refine pure_ (i := 4) (N := some 16) (v := ?_) (a' := ?_) #[true, true, true, false, true, false, false, false, false, false, false, false, false, false, false, false, false, false, false, false, false] rfl rfl (any_of HT_.out (by kernel_rfl)) (fun _ _ _ h => h) (Or.inl ⟨by rfl, ?_⟩) ?_ ?_
  rotate_left
  · intro w'
    go_simp
    with_reducible rfl
  rotate_left
  · simp only [Act.put, List.setIfInBounds_toArray, List.set_cons_zero, List.set_cons_succ, i64_w, i32_w]
    rfl
  refine one_ (i := 3) (N := some 15) #[true, true, true, true, true, false, false, false, false, false, false, false, false, false, false, false, false, false, false, false, false] rfl rfl (one_of HT_.out (by kernel_rfl)) (by decide) (fun K hK => ?_)
  refine goes_ Try.func60 (by kernel_rfl) rfl #[.string s] (by rfl) rfl rfl (by simp; first | done | rfl) ?_
  refine (more_Known.calls 20 s (knownB s) w10 hkm.out).mono ?_
  rintro e w20 ⟨rfl, hb⟩
  refine ⟨_, rfl, ?_⟩
  have HX20 := Aside0.mk (blk_below HX10.out hb)
  have HR20 := Aside0.mk (Kd.C_below HR10.out hb)
  have HP20 := Aside0.mk (Kd.C_below HP10.out hb)
  have HB20 := Aside0.mk (below_then HB10.out HB10.out.size hb)
  clear HX10 HR10 HP10 HB10 hb
  refine hK.out _ _ ((blk_cell HX20.out 0).trans rfl) (fun hHeld => ?_)
  clear hK K
  refine norm_ (a' := ?_) ?_ ?_
  rotate_left
  · show Act.put _ (some 15) _ = _
    simp only [Act.put, List.setIfInBounds_toArray, List.set_cons_zero, List.set_cons_succ, i64_w, i32_w]
    rfl
  refine one_ (i := 5) (N := some 17) #[true, true, true, true, true, true, false, false, false, false, false, false, false, false, false, false, false, false, false, false, false] rfl rfl (one_of HT_.out (by kernel_rfl)) (by decide) (fun K hK => ?_)
  refine goes_ Try.func61 (by kernel_rfl) rfl #[.string s] (by rfl) rfl rfl (by simp; first | done | rfl) ?_
  refine (cohortref07_Known.calls 20 s (knownB s) w20 hkn.out).mono ?_
  rintro e w30 ⟨rfl, hb⟩
  refine ⟨_, rfl, ?_⟩
  have HX30 := Aside0.mk (blk_below HX20.out hb)
  have HR30 := Aside0.mk (Kd.C_below HR20.out hb)
  have HP30 := Aside0.mk (Kd.C_below HP20.out hb)
  have HB30 := Aside0.mk (below_then HB20.out HB20.out.size hb)
  clear HX20 HR20 HP20 HB20 hb
  refine hK.out _ _ ((blk_cell HX30.out 0).trans rfl) (fun hHeld => ?_)
  clear hK K
  refine norm_ (a' := ?_) ?_ ?_
  rotate_left
  · show Act.put _ (some 17) _ = _
    simp only [Act.put, List.setIfInBounds_toArray, List.set_cons_zero, List.set_cons_succ, i64_w, i32_w]
    rfl
  refine pure_ (i := 6) (N := some 18) (v := ?_) (a' := ?_) #[true, true, true, true, true, true, true, false, false, false, false, false, false, false, false, false, false, false, false, false, false] rfl rfl (any_of HT_.out (by kernel_rfl)) (fun _ _ _ h => h) (Or.inl ⟨by rfl, ?_⟩) ?_ ?_
  rotate_left
  · intro w'
    go_simp
    with_reducible rfl
  rotate_left
  · simp only [Act.put, List.setIfInBounds_toArray, List.set_cons_zero, List.set_cons_succ, i64_w, i32_w]
    rfl
  refine pure_ (i := 7) (N := some 19) (v := ?_) (a' := ?_) #[true, true, true, true, true, true, true, true, false, false, false, false, false, false, false, false, false, false, false, false, false] rfl rfl (any_of HT_.out (by kernel_rfl)) (fun _ _ _ h => h) (Or.inl ⟨by rfl, ?_⟩) ?_ ?_
  rotate_left
  · intro w'
    go_simp
    with_reducible rfl
  rotate_left
  · simp only [Act.put, List.setIfInBounds_toArray, List.set_cons_zero, List.set_cons_succ, i64_w, i32_w]
    rfl
  refine pure_ (i := 8) (N := some 20) (v := ?_) (a' := ?_) #[true, true, true, true, true, true, true, true, true, false, false, false, false, false, false, false, false, false, false, false, false] rfl rfl (any_of HT_.out (by kernel_rfl)) (fun _ _ _ h => h) (Or.inl ⟨by rfl, ?_⟩) ?_ ?_
  rotate_left
  · intro w'
    go_simp
    with_reducible rfl
  rotate_left
  · simp only [Act.put, List.setIfInBounds_toArray, List.set_cons_zero, List.set_cons_succ, i64_w, i32_w]
    rfl
  refine pure_ (i := 9) (N := some 21) (v := ?_) (a' := ?_) #[true, true, true, true, true, true, true, true, true, true, false, false, false, false, false, false, false, false, false, false, false] rfl rfl (any_of HT_.out (by kernel_rfl)) (fun _ _ _ h => h) (Or.inl ⟨by rfl, ?_⟩) ?_ ?_
  rotate_left
  · intro w'
    go_simp
    with_reducible rfl
  rotate_left
  · simp only [Act.put, List.setIfInBounds_toArray, List.set_cons_zero, List.set_cons_succ, i64_w, i32_w]
    rfl
  refine take_ (i := 10) (N := some 22) (v := ?_) (a' := ?_) #[true, true, true, true, true, true, true, true, true, true, true, false, false, false, false, false, false, false, false, false, false] rfl rfl (take_ofW HT_.out HW_.out (by kernel_rfl)) (fun _ _ _ h => h) (Or.inl ⟨by rfl, ?_⟩) hHeld ?_ ?_
  rotate_left
  · intro w' s0
    go_simp
    with_reducible rfl
  rotate_left
  · simp only [Act.put, List.setIfInBounds_toArray, List.set_cons_zero, List.set_cons_succ, i64_w, i32_w]
    rfl
  refine pure_ (i := 11) (N := some 23) (v := ?_) (a' := ?_) #[true, true, true, true, true, true, true, true, true, true, true, true, false, false, false, false, false, false, false, false, false] rfl rfl (any_of HT_.out (by kernel_rfl)) (fun _ _ _ h => h) (Or.inl ⟨by rfl, ?_⟩) ?_ ?_
  rotate_left
  · intro w'
    go_simp
    with_reducible rfl
  rotate_left
  · simp only [Act.put, List.setIfInBounds_toArray, List.set_cons_zero, List.set_cons_succ, i64_w, i32_w]
    rfl
  refine pure_ (i := 13) (N := some 25) (v := ?_) (a' := ?_) #[true, true, true, true, true, true, true, true, true, true, true, true, false, true, false, false, false, false, false, false, false] rfl rfl (any_of HT_.out (by kernel_rfl)) (fun _ _ _ h => h) (Or.inl ⟨by rfl, ?_⟩) ?_ ?_
  rotate_left
  · intro w'
    go_simp
    with_reducible rfl
  rotate_left
  · simp only [Act.put, List.setIfInBounds_toArray, List.set_cons_zero, List.set_cons_succ, i64_w, i32_w]
    rfl
  refine take_ (i := 14) (N := some 26) (v := ?_) (a' := ?_) #[true, true, true, true, true, true, true, true, true, true, true, true, false, true, true, false, false, false, false, false, false] rfl rfl (take_ofW HT_.out HW_.out (by kernel_rfl)) (fun _ _ _ h => h) (Or.inl ⟨by rfl, ?_⟩) hHeld ?_ ?_
  rotate_left
  · intro w' s0
    go_simp
    with_reducible rfl
  rotate_left
  · simp only [Act.put, List.setIfInBounds_toArray, List.set_cons_zero, List.set_cons_succ, i64_w, i32_w]
    rfl
  refine pure_ (i := 16) (N := some 28) (v := ?_) (a' := ?_) #[true, true, true, true, true, true, true, true, true, true, true, true, false, true, true, false, true, false, false, false, false] rfl rfl (any_of HT_.out (by kernel_rfl)) (fun _ _ _ h => h) (Or.inl ⟨by rfl, ?_⟩) ?_ ?_
  rotate_left
  · intro w'
    go_simp
    with_reducible rfl
  rotate_left
  · simp only [Act.put, List.setIfInBounds_toArray, List.set_cons_zero, List.set_cons_succ, i64_w, i32_w]
    rfl
  refine one_ (i := 12) (N := some 24) #[true, true, true, true, true, true, true, true, true, true, true, true, true, true, true, false, true, false, false, false, false] rfl rfl (one_of HT_.out (by kernel_rfl)) (by decide) (fun K hK => ?_)
  refine goes_ Try.func62 (by kernel_rfl) rfl #[.string s, .agg #[.slice A L.length c], .slice B p.length cb] (by rfl) rfl rfl (by simp; first | done | exact ⟨rfl, rfl, rfl⟩ | rfl) ?_
  refine (mcheck_calls w30 s L A c p B cb HR30.out HP30.out hcb hg h1).mono ?_
  rintro e w40 ⟨rfl, hb⟩
  refine ⟨_, rfl, ?_⟩
  have HX40 := Aside0.mk (blk_below HX30.out hb)
  have HR40 := Aside0.mk (Kd.C_below HR30.out hb)
  have HP40 := Aside0.mk (Kd.C_below HP30.out hb)
  have HB40 := Aside0.mk (below_then HB30.out HB30.out.size hb)
  clear HX30 HR30 HP30 HB30 hb
  refine hK.out _ _ ((blk_cell HX40.out 0).trans rfl) (fun hHeld => ?_)
  clear hK K
  refine norm_ (a' := ?_) ?_ ?_
  rotate_left
  · show Act.put _ (some 24) _ = _
    simp only [Act.put, List.setIfInBounds_toArray, List.set_cons_zero, List.set_cons_succ, i64_w, i32_w]
    rfl
  refine one_ (i := 15) (N := some 27) #[true, true, true, true, true, true, true, true, true, true, true, true, true, true, true, true, true, false, false, false, false] rfl rfl (one_of HT_.out (by kernel_rfl)) (by decide) (fun K hK => ?_)
  refine goes_ Try.func16 (by kernel_rfl) rfl #[.agg #[.slice A L.length c]] (by rfl) rfl rfl (by simp; first | done | rfl) ?_
  refine (cohortlaw03_Ref.calls kr0 A c L M w40 HR40.out hc hkr.out).mono ?_
  rintro e w50 ⟨u, rfl, hS, hb⟩
  obtain ⟨A9, c9, hA9, hl9, hC9⟩ := Kd.S_reads hS
  subst hA9
  have HC9 := Aside0.mk hC9
  clear hS hC9
  refine ⟨_, rfl, ?_⟩
  have HX50 := Aside0.mk (blk_below HX40.out hb)
  have HR50 := Aside0.mk (Kd.C_below HR40.out hb)
  have HP50 := Aside0.mk (Kd.C_below HP40.out hb)
  have HB50 := Aside0.mk (below_then HB40.out HB40.out.size hb)
  clear HX40 HR40 HP40 HB40 hb
  refine hK.out _ _ ((blk_cell HX50.out 0).trans rfl) (fun hHeld => ?_)
  clear hK K
  refine norm_ (a' := ?_) ?_ ?_
  rotate_left
  · show Act.put _ (some 27) _ = _
    simp only [Act.put, List.setIfInBounds_toArray, List.set_cons_zero, List.set_cons_succ, i64_w, i32_w]
    rfl
  refine one_ (i := 17) (N := some 29) #[true, true, true, true, true, true, true, true, true, true, true, true, true, true, true, true, true, true, false, false, false] rfl rfl (one_of HT_.out (by kernel_rfl)) (by decide) (fun K hK => ?_)
  refine goes_ Try.func51 (by kernel_rfl) rfl #[.string s, .slice A9 M.length c9, .slice B p.length cb] (by rfl) rfl rfl (by simp; first | done | exact ⟨rfl, rfl, rfl⟩ | rfl) ?_
  refine (cohortref07_Check.calls ka s A9 c9 M B cb p (kr8 s L p) w50 HC9.out hl9 HP50.out hcb hka.out).mono ?_
  rintro e w60 ⟨rfl, hb⟩
  refine ⟨_, rfl, ?_⟩
  have HX60 := Aside0.mk (blk_below HX50.out hb)
  have HR60 := Aside0.mk (Kd.C_below HR50.out hb)
  have HP60 := Aside0.mk (Kd.C_below HP50.out hb)
  have HB60 := Aside0.mk (below_then HB50.out HB50.out.size hb)
  clear HX50 HR50 HP50 HB50 hb
  refine hK.out _ _ ((blk_cell HX60.out 0).trans rfl) (fun hHeld => ?_)
  clear hK K
  refine norm_ (a' := ?_) ?_ ?_
  rotate_left
  · show Act.put _ (some 29) _ = _
    simp only [Act.put, List.setIfInBounds_toArray, List.set_cons_zero, List.set_cons_succ, i64_w, i32_w]
    rfl
  refine pure_ (i := 18) (N := some 30) (v := ?_) (a' := ?_) #[true, true, true, true, true, true, true, true, true, true, true, true, true, true, true, true, true, true, true, false, false] rfl rfl (any_of HT_.out (by kernel_rfl)) (fun _ _ _ h => h) (Or.inl ⟨by rfl, ?_⟩) ?_ ?_
  rotate_left
  · intro w'
    go_simp
    with_reducible rfl
  rotate_left
  · simp only [Act.put, List.setIfInBounds_toArray, List.set_cons_zero, List.set_cons_succ, i64_w, i32_w]
    rfl
  refine pure_ (i := 19) (N := some 31) (v := ?_) (a' := ?_) #[true, true, true, true, true, true, true, true, true, true, true, true, true, true, true, true, true, true, true, true, false] rfl rfl (any_of HT_.out (by kernel_rfl)) (fun _ _ _ h => h) (Or.inl ⟨by rfl, ?_⟩) ?_ ?_
  rotate_left
  · intro w'
    go_simp
    with_reducible rfl
  rotate_left
  · simp only [Act.put, List.setIfInBounds_toArray, List.set_cons_zero, List.set_cons_succ, i64_w, i32_w]
    rfl
  refine pure_ (i := 20) (N := some 6) (v := ?_) (a' := ?_) #[true, true, true, true, true, true, true, true, true, true, true, true, true, true, true, true, true, true, true, true, true] rfl rfl (any_of HT_.out (by kernel_rfl)) (fun _ _ _ h => h) (Or.inl ⟨by rfl, ?_⟩) ?_ ?_
  rotate_left
  · intro w'
    go_simp
    with_reducible rfl
  rotate_left
  · simp only [Act.put, List.setIfInBounds_toArray, List.set_cons_zero, List.set_cons_succ, i64_w, i32_w]
    rfl
  refine done_ (done_of HT_.out (by kernel_rfl)) ?_
  go_wp2_with fail
  go_ret
  exact ⟨by first | rfl | simp, HB60.out⟩
end Go.Proofs.Ytbeefbhoccdicaa.MLaw
