/- GraphChecks: the law's own code, walked. -/
import Derived.Test.YtbeefbhoccdicaaRefBytes
import Derived.Test.YtbeefbhoccdicaaRefCheck
namespace Go.Proofs.Ytbeefbhoccdicaa.CheckLaw
open Go.RowKit Go.Shelf Go.Proofs.YtbeefbhoccdicaaW.PrintWords Go.Proofs.YtbeefbhoccdicaaW.PrintLast Go.Proofs.YtbeefbhoccdicaaW.PrintMore Go.Proofs.Ytbeefbhoccdicaa.QGraphReads Go.Proofs.Ytbeefbhoccdicaa.PlainV Go.Proofs.Ytbeefbhoccdicaa.WireNum Go.Proofs.Ytbeefbhoccdicaa.WireRead Go.Proofs.Ytbeefbhoccdicaa.Writer Go.Proofs.Ytbeefbhoccdicaa.PutG Go.Proofs.Ytbeefbhoccdicaa.FindG Go.Proofs.Ytbeefbhoccdicaa.EdgesG Go.Proofs.Ytbeefbhoccdicaa.AllG Go.Proofs.Ytbeefbhoccdicaa.CheckG Go.Proofs.Ytbeefbhoccdicaa.EncG Go.Proofs.Ytbeefbhoccdicaa.SameG Go.Proofs.Ytbeefbhoccdicaa.RdSpec Go.Proofs.Ytbeefbhoccdicaa.TakeG Go.Proofs.Ytbeefbhoccdicaa.DecG Go.Proofs.Ytbeefbhoccdicaa.PlainG Go.Proofs.Ytbeefbhoccdicaa.AwakeG Go.Proofs.Ytbeefbhoccdicaa.RefSpec Go.Proofs.Ytbeefbhoccdicaa.RefCheck Go.Proofs.Ytbeefbhoccdicaa.RefDec
set_option linter.unusedVariables false
set_option linter.unusedSimpArgs false

/-- A checked graph of bounded slices has no more edges than that. -/
theorem all_small (L : List S53) (hL : L.length ≤ 256) (he : ∀ v ∈ L, v.f2.length ≤ 8796093022208) : (allOf L).length ≤ 9223372036854775807 := by
  have h : ∀ M : List S53, (∀ v ∈ M, v.f2.length ≤ 8796093022208) → (allOf M).length ≤ 8796093022208 * M.length := by
    intro M
    induction M with
    | nil => intro _; simp [allOf]
    | cons v t ih =>
      intro hm
      have h1 := ih (fun u hu => hm u (List.mem_cons_of_mem _ hu))
      have h2 := hm v (List.mem_cons_self ..)
      have h3 : (allOf (v :: t)).length = v.f2.length + (allOf t).length := by
        rw [allOf, List.flatMap_cons, List.length_append, ofV, List.length_map]
        rfl
      rw [h3, List.length_cons]
      omega
  have := h L he
  omega

/-- The region that holds them together, as tables (they are reckoned from the operations' waits). -/
theorem checks_len {L : List S53} {r : Int} (h : Checks L r) (h0 : r = 0) : L.length ≤ 256 := by
  unfold Checks at h
  rcases h with ⟨_, h⟩ | ⟨h, _⟩ | ⟨h, _⟩ | ⟨h, _⟩ | ⟨h, _⟩
  · omega
  · exact h
  · exact h
  · exact h
  · exact h
/-- What was put, with one byte more behind it, is taken again, and that byte is left. -/
theorem take_x {l : List S53} (h : Checks l 0) (hs : (allOf l).length ≤ 9223372036854775807) (hv : ∀ v ∈ l, VertIn v) :
    Sz (graphBytes l) ∧ Sz (graphBytes l ++ ⟨#[120]⟩) ∧ takeS (graphBytes l ++ ⟨#[120]⟩) ⟨0, 0⟩ = (l.map rawV, ⟨(graphBytes l).size, 0⟩) ∧ need l ≤ 140737488340000 ∧ (l.map rawV).map v53 = l ∧ wire_Reader_Left.f (graphBytes l ++ ⟨#[120]⟩) (((graphBytes l).size : Nat) : Int) 0 = some (1, graphBytes l ++ ⟨#[120]⟩, (((graphBytes l).size : Nat) : Int), 0) := by
  obtain ⟨h1, h2, h3, h4⟩ := checked h hs
  obtain ⟨hz, hsz⟩ := graph_size l h1 h3
  have ht := take_at (graphBytes l ++ ⟨#[120]⟩) l 0 [120] (by rw [List.drop_zero, bs_append, bs_graph]; rfl) (fun v hm => ⟨hv v hm, by have := edges_le l v hm; omega⟩) h1
  have hp := putVerts_size l (⟨#[]⟩ ++ numStr l.length)
  have hn := numStr_size l.length
  rw [need_all, ByteArray.size_append] at hp
  have h0 : (⟨#[]⟩ : ByteArray).size = 0 := rfl
  have hg : (graphBytes l).size ≤ 100000 := by show (putVerts (⟨#[]⟩ ++ numStr l.length) l).size ≤ _; omega
  have hx : (graphBytes l ++ ⟨#[120]⟩).size = (graphBytes l).size + 1 := by rw [ByteArray.size_append]; rfl
  refine ⟨hz, by unfold Sz; omega, by rw [ht, ← hsz, Nat.zero_add], by rw [need_all]; omega, map_raw l, ?_⟩
  unfold wire_Reader_Left.f
  rw [hx, wrap_in (by unfold In; omega), show (((graphBytes l).size + 1 : Nat) : Int) - ((graphBytes l).size : Nat) = 1 by omega]
/-- The region that holds them together, as tables (they are reckoned from the operations' waits). -/
def T3 : Bool × List (List Nat × List Nat) := (true, [([], []), ([0], [0]), ([1, 0], [1]), ([2], [2]), ([3, 2, 2], [2, 3]), ([2], [2]), ([4, 5, 2], [2, 4, 5]), ([2, 6], [2, 6]), ([7, 4], [7]), ([8], [8]), ([8], [8]), ([9, 10, 8], [8, 9, 10]), ([8, 11], [8, 11]), ([12, 8], [12]), ([13], [13]), ([14, 13, 13], [13, 14]), ([13], [13]), ([16, 15, 13], [13, 16]), ([17, 17, 13], [13, 17]), ([15, 18, 13], [13, 15, 18]), ([13, 19], [13, 19])])
def B3 : List Nat := [0, 1, 3, 7, 15, 7, 63, 127, 255, 511, 511, 2047, 4095, 8191, 16383, 32767, 16383, 131071, 262143, 524287, 1048575]
theorem tab3 : rtab .any (opsOf Try.f3 3) = T3 := by kernel_rfl
theorem bits3 : waitsOk T3.2 B3 = true := by kernel_rfl

set_option maxHeartbeats 8000000 in
set_option maxRecDepth 100000 in
theorem law_calls (w : World) (L : List S53) (A : Option Addr) (c : Nat) (hc : L.length ≤ c) (hr : Kd.C k53 w A L.length L) (hv : ∀ v ∈ L, VertIn v ∧ v.f2.length * 16 ≤ 140737488351232) (hl : L.length * 40 ≤ 140737488351232) :
    Calls Try.prog 3 #[.agg #[.slice A L.length c]] w fun e w' => e = .returned (.bool true) ∧ Below w.heap.size w w' := by
  have hev : ∀ v ∈ L, v.f2.length ≤ 8796093022208 := fun v hm => by have := (hv v hm).2; omega
  obtain ⟨kc, r, hkc, hck⟩ := ref_check L (fun v hm => by have := hev v hm; omega)
  obtain ⟨kr, hkr⟩ := ref_ref L (by omega) hev
  have hs : r = 0 → (allOf L).length ≤ 9223372036854775807 := fun h0 => all_small L (checks_len hck h0) hev
  have hcnt := ref_count L (by omega) (k := L.length + 1) (by omega)
  generalize hw1 : w.alloc (.cells #[.slice A L.length c] 24) = w1
  have hx1 : w1.heap[w.heap.size]? = some (.cells #[.slice A L.length c] 24 (0, 0)) := by rw [← hw1]; exact blk_new w _
  have hb1 : Below w.heap.size w w1 := by rw [← hw1]; exact below_alloc (Below.refl _ _) _
  have hc1 : w1.cell? ⟨w.heap.size, 0, none⟩ = some (.slice A L.length c) := (blk_cell hx1 0).trans rfl
  have HC := Aside0.mk hc
  have HR1 := Aside0.mk (Kd.C_below hr hb1)
  have HX1 := Aside0.mk hx1
  have HB1 := Aside0.mk hb1
  have HV := Aside0.mk hv
  have HKC := Aside0.mk hkc
  have HKR := Aside0.mk hkr
  have HCK := Aside0.mk hck
  have HS := Aside0.mk hs
  have HCNT := Aside0.mk hcnt
  clear hc hr hx1 hb1 hv hl hev hkc hkr hck hs hcnt
  go_enter Try.func3, Try.ntmps3
  go_wp2_with fail
  refine (encode_calls w1 L A c r HR1.out (fun v hm => (HV.out v hm).1) HCK.out HS.out).mono ?_
  generalize hES : (if r = 0 then graphBytes L else ⟨#[]⟩) = es
  rintro e w2 ⟨rfl, hb2⟩
  have HX2 := Aside0.mk (blk_below HX1.out hb2)
  have HR2 := Aside0.mk (Kd.C_below HR1.out hb2)
  have HB2 := Aside0.mk (below_then HB1.out HB1.out.size hb2)
  have hc2 : w2.cell? ⟨w.heap.size, 0, none⟩ = some (.slice A L.length c) := (blk_cell HX2.out 0).trans rfl
  have HES := Aside0.mk hES
  clear hb2 hES hw1 hc1
  go_wp2_with fail
  refine (cohortlaw03_Ref.calls kr A c L _ w2 HR2.out HC.out HKR.out).mono ?_
  rintro e w3 ⟨u, rfl, hS, hb3⟩
  obtain ⟨A3, c3, hA3, hl3, hC3⟩ := Kd.S_reads hS
  subst hA3
  have HX3 := Aside0.mk (blk_below HX2.out hb3)
  have HR3 := Aside0.mk (Kd.C_below HR2.out hb3)
  have HB3 := Aside0.mk (below_then HB2.out HB2.out.size hb3)
  clear hb3 hc2 hS
  obtain ⟨M, hM⟩ : ∃ M, L.map r59 = M := ⟨_, rfl⟩
  rw [hM] at hC3 hl3 ⊢
  have HM := Aside0.mk hM
  clear hM
  go_wp2_with fail
  refine (cohortref03_Check.calls kc A3 c3 M r w3 hC3 hl3 (by rw [← HM.out]; exact HKC.out)).mono ?_
  rintro e w4 ⟨rfl, hd⟩
  have HX4 := Aside0.mk (blk_below HX3.out hd.below)
  have HR4 := Aside0.mk (Kd.C_below HR3.out hd.below)
  have HB4 := Aside0.mk (below_then HB3.out HB3.out.size hd.below)
  clear hd hC3 hl3
  go_wp2_with fail
  have HX5 := Aside0.mk (blk_drew HX4.out)
  have HR5 := Aside0.mk (Kd.C_drew HR4.out)
  have HB5 := Aside0.mk (below_drew1 HB4.out)
  clear HX4 HR4 HB4
  refine start_ (n := 21) (S := fun w' => w'.cell? ⟨w.heap.size, 0, none⟩ = some (.slice A L.length c)) (ds := [20]) #[false, false, false, false, false, false, false, false, false, false, false, false, false, false, false, false, false, false, false, false, false] (by kernel_rfl) rfl rfl ((blk_cell HX5.out 0).trans rfl) (fun hHeld => ?_)
  refine with_tabW tab3 bits3 (fun HT_ HW_ => ?_)
  generalize w4.drew = w5 at HX5 HR5 HB5 hHeld ⊢
  refine one_ (i := 0) (N := some 19) #[true, false, false, false, false, false, false, false, false, false, false, false, false, false, false, false, false, false, false, false, false] rfl rfl (one_of HT_.out (by kernel_rfl)) (by decide) (fun K hK => ?_)
  refine goes_ Try.func17 (by kernel_rfl) rfl #[] (by rfl) rfl rfl (by simp) ?_
  refine (awake_calls w5).mono ?_
  rintro e w6 ⟨rfl, hb6⟩
  refine ⟨_, rfl, ?_⟩
  have HX6 := Aside0.mk (blk_below HX5.out hb6)
  have HR6 := Aside0.mk (Kd.C_below HR5.out hb6)
  have HB6 := Aside0.mk (below_then HB5.out HB5.out.size hb6)
  clear hb6 HX5 HR5 HB5
  refine hK.out _ _ ((blk_cell HX6.out 0).trans rfl) (fun hHeld => ?_)
  clear hK K
  refine norm_ (a' := ?_) ?_ ?_
  rotate_left
  · show Act.put _ (some 19) _ = _
    simp only [Act.put, List.setIfInBounds_toArray, List.set_cons_zero, List.set_cons_succ, i64_w, i32_w]
    rfl
  refine pure_ (i := 1) (N := some 20) (v := ?_) (a' := ?_) #[true, true, false, false, false, false, false, false, false, false, false, false, false, false, false, false, false, false, false, false, false] rfl rfl (any_of HT_.out (by kernel_rfl)) (fun _ _ _ h => h) (Or.inl ⟨by rfl, ?_⟩) ?_ ?_
  rotate_left
  · intro w'
    go_simp
    with_reducible rfl
  rotate_left
  · simp only [Act.put, List.setIfInBounds_toArray, List.set_cons_zero, List.set_cons_succ, i64_w, i32_w]
    rfl
  refine pure_ (i := 2) (N := some 21) (v := ?_) (a' := ?_) #[true, true, true, false, false, false, false, false, false, false, false, false, false, false, false, false, false, false, false, false, false] rfl rfl (any_of HT_.out (by kernel_rfl)) (fun _ _ _ h => h) (Or.inl ⟨by rfl, ?_⟩) ?_ ?_
  rotate_left
  · intro w'
    go_simp
    with_reducible rfl
  rotate_left
  · simp only [Act.put, List.setIfInBounds_toArray, List.set_cons_zero, List.set_cons_succ, i64_w, i32_w]
    rfl
  refine take_ (i := 3) (N := some 22) (v := ?_) (a' := ?_) #[true, true, true, true, false, false, false, false, false, false, false, false, false, false, false, false, false, false, false, false, false] rfl rfl (take_ofW HT_.out HW_.out (by kernel_rfl)) (fun _ _ _ h => h) (Or.inl ⟨by rfl, ?_⟩) hHeld ?_ ?_
  rotate_left
  · intro w' s0
    go_simp
    with_reducible rfl
  rotate_left
  · simp only [Act.put, List.setIfInBounds_toArray, List.set_cons_zero, List.set_cons_succ, i64_w, i32_w]
    rfl
  refine pure_ (i := 5) (N := some 24) (v := ?_) (a' := ?_) #[true, true, true, true, false, true, false, false, false, false, false, false, false, false, false, false, false, false, false, false, false] rfl rfl (any_of HT_.out (by kernel_rfl)) (fun _ _ _ h => h) (Or.inl ⟨by rfl, ?_⟩) ?_ ?_
  rotate_left
  · intro w'
    go_simp
    with_reducible rfl
  rotate_left
  · simp only [Act.put, List.setIfInBounds_toArray, List.set_cons_zero, List.set_cons_succ, i64_w, i32_w]
    rfl
  refine one_ (i := 4) (N := some 23) #[true, true, true, true, true, true, false, false, false, false, false, false, false, false, false, false, false, false, false, false, false] rfl rfl (one_of HT_.out (by kernel_rfl)) (by decide) (fun K hK => ?_)
  refine goes_ Try.func18 (by kernel_rfl) rfl #[.agg #[.slice A L.length c]] (by rfl) rfl rfl (by simp; rfl) ?_
  refine (check_calls w6 L A c HR6.out).mono ?_
  rintro e w7 ⟨⟨r7, rfl, hr7⟩, hb7⟩
  obtain rfl := hr7.one HCK.out
  refine ⟨_, rfl, ?_⟩
  have HX7 := Aside0.mk (blk_below HX6.out hb7)
  have HR7 := Aside0.mk (Kd.C_below HR6.out hb7)
  have HB7 := Aside0.mk (below_then HB6.out HB6.out.size hb7)
  clear hb7 HX6 HR6 HB6 hr7
  refine hK.out _ _ ((blk_cell HX7.out 0).trans rfl) (fun hHeld => ?_)
  clear hK K
  refine norm_ (a' := ?_) ?_ ?_
  rotate_left
  · show Act.put _ (some 23) _ = _
    simp only [Act.put, List.setIfInBounds_toArray, List.set_cons_zero, List.set_cons_succ, i64_w, i32_w]
    rfl
  have hne : (r7 != r7) = false := by simp
  refine pure_ (i := 6) (N := some 25) (v := ?_) (a' := ?_) #[true, true, true, true, true, true, true, false, false, false, false, false, false, false, false, false, false, false, false, false, false] rfl rfl (any_of HT_.out (by kernel_rfl)) (fun _ _ _ h => h) (Or.inl ⟨by rfl, ?_⟩) ?_ ?_
  rotate_left
  · intro w'
    go_simp
    with_reducible rfl
  rotate_left
  · simp only [Act.put, List.setIfInBounds_toArray, List.set_cons_zero, List.set_cons_succ, i64_w, i32_w]
    rfl
  refine pure_ (i := 7) (N := some 26) (v := ?_) (a' := ?_) #[true, true, true, true, true, true, true, true, false, false, false, false, false, false, false, false, false, false, false, false, false] rfl rfl (any_of HT_.out (by kernel_rfl)) (fun _ _ _ h => h) (Or.inl ⟨by rfl, ?_⟩) ?_ ?_
  rotate_left
  · intro w'
    go_simp
    with_reducible rfl
  rotate_left
  · simp only [Act.put, List.setIfInBounds_toArray, List.set_cons_zero, List.set_cons_succ, i64_w, i32_w]
    rfl
  refine pure_ (i := 8) (N := some 27) (v := ?_) (a' := ?_) #[true, true, true, true, true, true, true, true, true, false, false, false, false, false, false, false, false, false, false, false, false] rfl rfl (any_of HT_.out (by kernel_rfl)) (fun _ _ _ h => h) (Or.inl ⟨by rfl, ?_⟩) ?_ ?_
  rotate_left
  · intro w'
    go_simp
    with_reducible rfl
  rotate_left
  · simp only [Act.put, List.setIfInBounds_toArray, List.set_cons_zero, List.set_cons_succ, i64_w, i32_w]
    rfl
  refine pure_ (i := 9) (N := some 28) (v := ?_) (a' := ?_) #[true, true, true, true, true, true, true, true, true, true, false, false, false, false, false, false, false, false, false, false, false] rfl rfl (any_of HT_.out (by kernel_rfl)) (fun _ _ _ h => h) (Or.inl ⟨by rfl, ?_⟩) ?_ ?_
  rotate_left
  · intro w'
    go_simp
    with_reducible rfl
  rotate_left
  · simp only [Act.put, List.setIfInBounds_toArray, List.set_cons_zero, List.set_cons_succ, i64_w, i32_w]
    rfl
  refine pure_ (i := 10) (N := some 29) (v := ?_) (a' := ?_) #[true, true, true, true, true, true, true, true, true, true, true, false, false, false, false, false, false, false, false, false, false] rfl rfl (any_of HT_.out (by kernel_rfl)) (fun _ _ _ h => h) (Or.inl ⟨by rfl, ?_⟩) ?_ ?_
  rotate_left
  · intro w'
    go_simp
    with_reducible rfl
  rotate_left
  · simp only [Act.put, List.setIfInBounds_toArray, List.set_cons_zero, List.set_cons_succ, i64_w, i32_w]
    rfl
  refine pure_ (i := 11) (N := some 30) (v := ?_) (a' := ?_) #[true, true, true, true, true, true, true, true, true, true, true, true, false, false, false, false, false, false, false, false, false] rfl rfl (any_of HT_.out (by kernel_rfl)) (fun _ _ _ h => h) (Or.inl ⟨by rfl, ?_⟩) ?_ ?_
  rotate_left
  · intro w'
    go_simp
    with_reducible rfl
  rotate_left
  · simp only [Act.put, List.setIfInBounds_toArray, List.set_cons_zero, List.set_cons_succ, i64_w, i32_w]
    rfl
  refine pure_ (i := 12) (N := some 31) (v := ?_) (a' := ?_) #[true, true, true, true, true, true, true, true, true, true, true, true, true, false, false, false, false, false, false, false, false] rfl rfl (any_of HT_.out (by kernel_rfl)) (fun _ _ _ h => h) (Or.inl ⟨by rfl, ?_⟩) ?_ ?_
  rotate_left
  · intro w'
    go_simp
    with_reducible rfl
  rotate_left
  · simp only [Act.put, List.setIfInBounds_toArray, List.set_cons_zero, List.set_cons_succ, i64_w, i32_w]
    rfl
  refine pure_ (i := 13) (N := some 32) (v := ?_) (a' := ?_) #[true, true, true, true, true, true, true, true, true, true, true, true, true, true, false, false, false, false, false, false, false] rfl rfl (any_of HT_.out (by kernel_rfl)) (fun _ _ _ h => h) (Or.inl ⟨by rfl, ?_⟩) ?_ ?_
  rotate_left
  · intro w'
    go_simp
    with_reducible rfl
  rotate_left
  · simp only [Act.put, List.setIfInBounds_toArray, List.set_cons_zero, List.set_cons_succ, i64_w, i32_w]
    rfl
  refine take_ (i := 14) (N := some 33) (v := ?_) (a' := ?_) #[true, true, true, true, true, true, true, true, true, true, true, true, true, true, true, false, false, false, false, false, false] rfl rfl (take_ofW HT_.out HW_.out (by kernel_rfl)) (fun _ _ _ h => h) (Or.inl ⟨by rfl, ?_⟩) hHeld ?_ ?_
  rotate_left
  · intro w' s0
    go_simp
    with_reducible rfl
  rotate_left
  · simp only [Act.put, List.setIfInBounds_toArray, List.set_cons_zero, List.set_cons_succ, i64_w, i32_w]
    rfl
  refine take_ (i := 16) (N := some 35) (v := ?_) (a' := ?_) #[true, true, true, true, true, true, true, true, true, true, true, true, true, true, true, false, true, false, false, false, false] rfl rfl (take_ofW HT_.out HW_.out (by kernel_rfl)) (fun _ _ _ h => h) (Or.inl ⟨by rfl, ?_⟩) hHeld ?_ ?_
  rotate_left
  · intro w' s0
    go_simp
    with_reducible rfl
  rotate_left
  · simp only [Act.put, List.setIfInBounds_toArray, List.set_cons_zero, List.set_cons_succ, i64_w, i32_w]
    rfl
  refine one_ (i := 15) (N := some 34) #[true, true, true, true, true, true, true, true, true, true, true, true, true, true, true, true, true, false, false, false, false] rfl rfl (one_of HT_.out (by kernel_rfl)) (by decide) (fun K hK => ?_)
  refine goes_ Try.func19 (by kernel_rfl) rfl #[.agg #[.slice A L.length c]] (by rfl) rfl rfl (by simp; rfl) ?_
  refine (edgesN_calls w7 L A c HR7.out).mono ?_
  generalize hcw : wrap64 ((allOf L).length : Int) = cw
  rintro e w8 ⟨rfl, hb8⟩
  have HCW := Aside0.mk hcw
  refine ⟨_, rfl, ?_⟩
  have HX8 := Aside0.mk (blk_below HX7.out hb8)
  have HR8 := Aside0.mk (Kd.C_below HR7.out hb8)
  have HB8 := Aside0.mk (below_then HB7.out HB7.out.size hb8)
  clear hb8 HX7 HR7 HB7 hcw
  refine hK.out _ _ ((blk_cell HX8.out 0).trans rfl) (fun hHeld => ?_)
  clear hK K
  refine norm_ (a' := ?_) ?_ ?_
  rotate_left
  · show Act.put _ (some 34) _ = _
    simp only [Act.put, List.setIfInBounds_toArray, List.set_cons_zero, List.set_cons_succ, i64_w, i32_w]
    rfl
  refine one_ (i := 17) (N := some 36) #[true, true, true, true, true, true, true, true, true, true, true, true, true, true, true, true, true, true, false, false, false] rfl rfl (one_of HT_.out (by kernel_rfl)) (by decide) (fun K hK => ?_)
  refine goes_ Try.func16 (by kernel_rfl) rfl #[.agg #[.slice A L.length c]] (by rfl) rfl rfl (by simp; rfl) ?_
  refine (cohortlaw03_Ref.calls kr A c L _ w8 HR8.out HC.out HKR.out).mono ?_
  rintro e w9 ⟨u9, rfl, hS9, hb9⟩
  rw [HM.out] at hS9
  obtain ⟨A9, c9, hA9, hl9, hC9⟩ := Kd.S_reads hS9
  subst hA9
  refine ⟨_, rfl, ?_⟩
  have HX9 := Aside0.mk (blk_below HX8.out hb9)
  have HR9 := Aside0.mk (Kd.C_below HR8.out hb9)
  have HB9 := Aside0.mk (below_then HB8.out HB8.out.size hb9)
  have HC9 := Aside0.mk hC9
  have HL9 := Aside0.mk hl9
  clear hb9 HX8 HR8 HB8 hS9 hC9 hl9
  refine hK.out _ _ ((blk_cell HX9.out 0).trans rfl) (fun hHeld => ?_)
  clear hK K
  refine norm_ (a' := ?_) ?_ ?_
  rotate_left
  · show Act.put _ (some 36) _ = _
    simp only [Act.put, List.setIfInBounds_toArray, List.set_cons_zero, List.set_cons_succ, i64_w, i32_w]
    rfl
  refine one_ (i := 18) (N := some 37) #[true, true, true, true, true, true, true, true, true, true, true, true, true, true, true, true, true, true, true, false, false] rfl rfl (one_of HT_.out (by kernel_rfl)) (by decide) (fun K hK => ?_)
  refine goes_ Try.func20 (by kernel_rfl) rfl #[.slice A9 M.length c9] (by rfl) rfl rfl (by simp; rfl) ?_
  refine (cohortref03_Edges.calls (L.length + 1) A9 c9 M cw w9 HC9.out HL9.out (by rw [← HM.out, ← HCW.out]; exact HCNT.out)).mono ?_
  rintro e w10 ⟨rfl, hd10⟩
  refine ⟨_, rfl, ?_⟩
  have HX10 := Aside0.mk (blk_below HX9.out hd10.below)
  have HR10 := Aside0.mk (Kd.C_below HR9.out hd10.below)
  have HB10 := Aside0.mk (below_then HB9.out HB9.out.size hd10.below)
  clear hd10 HX9 HR9 HB9
  refine hK.out _ _ ((blk_cell HX10.out 0).trans rfl) (fun hHeld => ?_)
  clear hK K
  refine norm_ (a' := ?_) ?_ ?_
  rotate_left
  · show Act.put _ (some 37) _ = _
    simp only [Act.put, List.setIfInBounds_toArray, List.set_cons_zero, List.set_cons_succ, i64_w, i32_w]
    rfl
  have hne2 : (cw != cw) = false := by simp
  refine pure_ (i := 19) (N := some 38) (v := ?_) (a' := ?_) #[true, true, true, true, true, true, true, true, true, true, true, true, true, true, true, true, true, true, true, true, false] rfl rfl (any_of HT_.out (by kernel_rfl)) (fun _ _ _ h => h) (Or.inl ⟨by rfl, ?_⟩) ?_ ?_
  rotate_left
  · intro w'
    go_simp
    with_reducible rfl
  rotate_left
  · simp only [Act.put, List.setIfInBounds_toArray, List.set_cons_zero, List.set_cons_succ, i64_w, i32_w]
    rfl
  refine pure_ (i := 20) (N := some 39) (v := ?_) (a' := ?_) #[true, true, true, true, true, true, true, true, true, true, true, true, true, true, true, true, true, true, true, true, true] rfl rfl (any_of HT_.out (by kernel_rfl)) (fun _ _ _ h => h) (Or.inl ⟨by rfl, ?_⟩) ?_ ?_
  rotate_left
  · intro w'
    go_simp
    with_reducible rfl
  rotate_left
  · simp only [Act.put, List.setIfInBounds_toArray, List.set_cons_zero, List.set_cons_succ, i64_w, i32_w]
    rfl
  refine done_ (done_of HT_.out (by kernel_rfl)) ?_
  have hc10 : w10.cell? ⟨w.heap.size, 0, none⟩ = some (.slice A L.length c) := (blk_cell HX10.out 0).trans rfl
  clear hHeld HT_ HW_ hne hne2
  have hes := HES.out
  by_cases h0 : r7 = 0
  · subst h0
    rw [if_pos rfl] at hes
    have hin : ∀ v ∈ L, VertIn v := fun v hm => (HV.out v hm).1
    obtain ⟨t1, t2, t3, t4, t5, t6⟩ := take_x HCK.out (HS.out rfl) hin
    obtain ⟨h1, h2, h3, h4⟩ := checked HCK.out (HS.out rfl)
    have hde := fun x => dec_enc (x := x) HCK.out (HS.out rfl) hin
    have hby := bytes_f L h1 (fun v hv => ⟨hin v hv, by have := edges_le L v hv; omega⟩) (k := 4001) (by omega)
    have hpu : putVerts (⟨#[]⟩ ++ numStr L.length) L = es := hes
    rw [hes] at t1 t2 t3 t6 hde hby
    rw [HM.out] at hby
    clear hes HES h1 h2 h3 h4
    have T1 := Aside0.mk t1
    have T2 := Aside0.mk t2
    have T3' := Aside0.mk t3
    have T4 := Aside0.mk t4
    have T5' := Aside0.mk t5
    have T6 := Aside0.mk t6
    have DE := Aside0.mk hde
    have BY := Aside0.mk hby
    have PU := Aside0.mk hpu
    have IN := Aside0.mk hin
    clear t1 t2 t3 t4 t5 t6 hde hby hpu hin
    go_wp2_with fail
    refine (decode_calls w10 es T1.out).mono ?_
    rintro e w11 ⟨⟨v, x, rfl, hx, hS⟩, hb11⟩
    obtain ⟨hx0, hd⟩ := DE.out x hx
    subst hx0
    rw [if_pos rfl, hd] at hS
    obtain ⟨A11, c11, hA11, hcl11, hC11⟩ := Kd.S_reads hS
    subst hA11
    have HX12 := Aside0.mk (blk_alloc (blk_below HX10.out hb11) (.cells #[.slice A11 L.length c11] 24))
    have HY12 := Aside0.mk (blk_new w11 (.cells #[.slice A11 L.length c11] 24))
    have HR12 := Aside0.mk (Kd.C_alloc (Kd.C_below HR10.out hb11) (.cells #[.slice A11 L.length c11] 24))
    have HD12 := Aside0.mk (Kd.C_alloc hC11 (.cells #[.slice A11 L.length c11] 24))
    have HB12 := Aside0.mk (below_alloc (below_then HB10.out HB10.out.size hb11) (.cells #[.slice A11 L.length c11] 24))
    clear hS hcl11 hC11 hb11 hd hx HX10 HR10 HB10 hc10
    go_wp2_with fail
    generalize w11.alloc (.cells #[.slice A11 L.length c11] 24) = w12 at HX12 HY12 HR12 HD12 HB12 ⊢
    generalize w11.heap.size = b6 at HY12 ⊢
    refine (new_calls w12 w12 (Below.refl _ _)).mono ?_
    rintro e w13 ⟨g, rfl, hI13, hb13, hk13⟩
    have hc13 : w13.cell? ⟨w.heap.size, 0, none⟩ = some (.slice A L.length c) := (blk_cell (blk_below HX12.out hb13) 0).trans rfl
    have HI13 := Aside0.mk hI13
    have HB13 := Aside0.mk hb13
    clear hI13 hb13 hk13
    go_wp2_with fail
    refine (put_calls w12 w13 g ⟨#[]⟩ L A c HR12.out IN.out HI13.out HB13.out (by have := T4.out; rw [show (⟨#[]⟩ : ByteArray).size = 0 from rfl]; omega)).mono ?_
    rintro e w14 ⟨rfl, hI14, hb14, hk14⟩
    rw [PU.out] at hI14
    have HI14 := Aside0.mk hI14
    have HX14 := Aside0.mk (blk_below HX12.out hb14)
    have HY14 := Aside0.mk (blk_below HY12.out hb14)
    have HR14 := Aside0.mk (Kd.C_below HR12.out hb14)
    have HD14 := Aside0.mk (Kd.C_below HD12.out hb14)
    have HB14 := Aside0.mk (below_then HB12.out HB12.out.size hb14)
    clear hI14 hb14 hk14 HX12 HY12 HR12 HD12 HB12 HI13 HB13 hc13
    go_wp2_with fail
    refine (all_calls w12 w14 g es HI14.out).mono ?_
    rintro e w14' ⟨rfl, rfl⟩
    have hx0 : es.size + (⟨#[120]⟩ : ByteArray).size ≤ 9223372036854775807 := by
      have := T1.out
      unfold Sz at this
      rw [show (⟨#[120]⟩ : ByteArray).size = 1 from rfl]
      omega
    have hx2 : (9223372036854775807 < es.size + 1) = False := eq_false (Nat.not_lt.2 hx0)
    clear hx0
    go_wp2_with fail
    clear hx2
    refine (wire_NewReader.calls (es ++ ⟨#[120]⟩) (es ++ ⟨#[120]⟩) 0 0 w14 w14 (Below.refl _ _) rfl).mono ?_
    rintro e w15 ⟨rg, rfl, hI15, hb15, -⟩
    have HRd15 := Aside0.mk hI15
    have HB15 := Aside0.mk hb15
    clear hI15 hb15
    go_wp2_with fail
    refine (take_calls w14 w15 rg (es ++ ⟨#[120]⟩) ⟨0, 0⟩ T2.out (Nat.zero_le _) HRd15.out HB15.out).mono ?_
    rintro e w16 ⟨v16, r16, rfl, hS16, hE16, hI16, hb16, hk16⟩
    rw [T3'.out] at hS16 hI16 hE16
    rw [T5'.out] at hS16 hE16
    obtain ⟨A16, c16, hA16, hcl16, hC16⟩ := Kd.S_reads hS16
    subst hA16
    obtain rfl : r16 = 0 := by
      rcases hE16 with ⟨_, h⟩ | ⟨h, _⟩
      · exact h.one HCK.out
      · exact absurd rfl h
    have hc16 : w16.cell? ⟨w.heap.size, 0, none⟩ = some (.slice A L.length c) := (blk_cell (blk_below HX14.out hb16) 0).trans rfl
    have hl16 : w.heap.size < w16.heap.size := blk_lt (blk_below HX14.out hb16)
    have hne16 : (w.heap.size = w16.heap.size) = False := eq_false (by omega)
    have HX17 := Aside0.mk (blk_alloc (blk_below HX14.out hb16) (.cells #[.slice A16 L.length c16] 24))
    have HY17 := Aside0.mk (blk_alloc (blk_below HY14.out hb16) (.cells #[.slice A16 L.length c16] 24))
    have HZ17 := Aside0.mk (blk_new w16 (.cells #[.slice A16 L.length c16] 24))
    have HR17 := Aside0.mk (Kd.C_alloc (Kd.C_below HR14.out hb16) (.cells #[.slice A16 L.length c16] 24))
    have HD17 := Aside0.mk (Kd.C_alloc (Kd.C_below HD14.out hb16) (.cells #[.slice A16 L.length c16] 24))
    have HE17 := Aside0.mk (Kd.C_alloc hC16 (.cells #[.slice A16 L.length c16] 24))
    have HRd17 := Aside0.mk (hI16.alloc (.cells #[.slice A16 L.length c16] 24))
    have HI17 := Aside0.mk ((HI14.out.below hb16).below (below_alloc (Below.refl _ _) (.cells #[.slice A16 L.length c16] 24)))
    have HB17 := Aside0.mk (below_alloc (below_then HB14.out HB14.out.size hb16) (.cells #[.slice A16 L.length c16] 24))
    have HW17 := Aside0.mk (below_alloc hb16 (.cells #[.slice A16 L.length c16] 24))
    clear hS16 hE16 hI16 hb16 hk16 hC16 hcl16 HX14 HY14 HR14 HD14 HI14 HRd15 HB15
    go_wp2_with fail
    generalize w16.alloc (.cells #[.slice A16 L.length c16] 24) = w17 at HX17 HY17 HZ17 HR17 HD17 HE17 HRd17 HI17 HB17 HW17 ⊢
    generalize w16.heap.size = b10 at HZ17 ⊢
    clear hc16 hl16 hne16
    refine (cohortlaw03_Ref.calls kr A c L _ w17 HR17.out HC.out HKR.out).mono ?_
    rintro e w18 ⟨u18, rfl, hS18, hb18⟩
    rw [HM.out] at hS18
    obtain ⟨A18, c18, hA18, hl18, hC18⟩ := Kd.S_reads hS18
    subst hA18
    have HB18 := Aside0.mk hb18
    clear hS18 hb18
    go_wp2_with fail
    refine (cohortref03_Bytes.calls 4001 A18 c18 M es w18 hC18 hl18 BY.out).mono ?_
    rintro e w19 ⟨rfl, hb19⟩
    have HB19 := Aside0.mk (below_then HB18.out HB18.out.size hb19)
    have hc19 : w19.cell? ⟨w.heap.size, 0, none⟩ = some (.slice A L.length c) := (blk_cell (blk_below HX17.out HB19.out) 0).trans rfl
    have hd19 : w19.cell? ⟨b6, 0, none⟩ = some (.slice A11 L.length c11) := (blk_cell (blk_below HY17.out HB19.out) 0).trans rfl
    clear hb19 hC18 hl18 HB18
    go_wp2_with fail
    refine (same_calls w19 L L A A11 c c11 (Kd.C_below HR17.out HB19.out) (Kd.C_below HD17.out HB19.out)).mono ?_
    rintro e w20 ⟨⟨b, rfl, hT⟩, hb20⟩
    obtain rfl : b = true := hT.2 rfl
    have HB20 := Aside0.mk (below_then HB19.out HB19.out.size hb20)
    clear hT hb20 hc19 hd19 HB19
    go_wp2_with fail
    refine (all_calls w12 w20 g es (HI17.out.below HB20.out)).mono ?_
    rintro e w20' ⟨rfl, rfl⟩
    have hc20 : w20.cell? ⟨w.heap.size, 0, none⟩ = some (.slice A L.length c) := (blk_cell (blk_below HX17.out HB20.out) 0).trans rfl
    have hd20 : w20.cell? ⟨b10, 0, none⟩ = some (.slice A16 L.length c16) := (blk_cell (blk_below HZ17.out HB20.out) 0).trans rfl
    go_wp2_with fail
    refine (same_calls w20 L L A16 A c16 c (Kd.C_below HE17.out HB20.out) (Kd.C_below HR17.out HB20.out)).mono ?_
    rintro e w21 ⟨⟨b, rfl, hT⟩, hb21⟩
    obtain rfl : b = true := hT.2 rfl
    have HB21 := Aside0.mk (below_then HB20.out HB20.out.size hb21)
    clear hT hb21 hc20 hd20 HB20
    go_wp2_with fail
    refine (wire_Reader_Left.calls rg (es ++ ⟨#[120]⟩) _ _ 1 _ _ _ w14 w21 (HRd17.out.below HB21.out) (below_then HW17.out HW17.out.size HB21.out) T6.out).mono ?_
    rintro e w22 ⟨rfl, hI22, hb22, hk22⟩
    have HRd22 := Aside0.mk hI22
    have HB22 := Aside0.mk hb22
    clear hI22 hb22 hk22 HB21
    go_wp2_with fail
    refine (wire_Reader_Err.calls rg (es ++ ⟨#[120]⟩) _ _ 0 _ _ _ w14 w22 HRd22.out HB22.out rfl).mono ?_
    rintro e w23 ⟨rfl, hI23, hb23, hk23⟩
    go_wp2_with fail
    go_ret
    exact ⟨by first | rfl | simp, below_then HB14.out HB14.out.size hb23⟩
  · rw [if_neg h0] at hes
    subst hes
    have h0b : (r7 != 0) = true := bne_iff_ne.2 h0
    clear h0
    go_wp2_with fail
    go_ret
    exact ⟨by first | rfl | simp, HB10.out⟩
end Go.Proofs.Ytbeefbhoccdicaa.CheckLaw
