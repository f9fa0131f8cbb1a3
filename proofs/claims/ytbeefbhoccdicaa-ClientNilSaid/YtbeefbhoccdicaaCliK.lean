/- What a client asks for now: walked. -/
import Derived.Test.YtbeefbhoccdicaaCliA
import Derived.BigRegion
import Derived.Laws.CopyOwn
import Derived.Laws.Tables
namespace Go.Proofs.Ytbeefbhoccdicaa.CliK
open Go.RowKit Go.Proofs.YtbeefbhoccdicaaW.PrintWords Go.Proofs.YtbeefbhoccdicaaW.PrintLast Go.Proofs.YtbeefbhoccdicaaW.PrintMore Go.Proofs.Ytbeefbhoccdicaa.QGraphReads Go.Proofs.Ytbeefbhoccdicaa.CloneC Go.Proofs.Ytbeefbhoccdicaa.CliA
attribute [local go_sem] max2_int min2_int max_two min_two
set_option linter.unusedVariables false
set_option linter.unusedSimpArgs false

def T2 : Bool × List (List Nat × List Nat) := (true, [([], []), ([0], [0]), ([], []), ([2], [2]), ([], []), ([4], [4]), ([5], [5]), ([1, 3, 6], [1, 3, 6]), ([], []), ([8, 7, 3, 0, 1, 2, 3, 4, 5, 6, 7, 8], [7, 8])])
def B2 : List Nat := [0, 1, 0, 4, 0, 16, 48, 127, 0, 511]
theorem tab2 : rtab .any (opsOf Try.f108 2) = T2 := by kernel_rfl
theorem bits2 : waitsOk T2.2 B2 = true := by kernel_rfl
set_option maxHeartbeats 8000000 in
set_option maxRecDepth 100000 in
theorem ask_submit (w : World) (g : Nat) (n ma ld : Int) (b cl : Nat) (seq since silent : Int) (h : Value) (s : ByteArray) (id : Int) (H : Cli w g n ma ld (.slice (some ⟨b, 0, none⟩) 1 cl) 0 seq since silent h) (hn : 0 ≤ n ∧ n ≤ 100) (hs : 0 ≤ seq ∧ seq ≤ 1000000)
    (k0 : w.cell? ⟨b, 0, none⟩ = some (.int .i64 1)) (k1 : w.cell? ⟨b, 1, none⟩ = some (.string s)) (k2 : w.cell? ⟨b, 2, none⟩ = some (.int .i64 id)) :
    Calls Try.prog 108 #[.pointer (some ⟨g, 0, none⟩)] w fun e w' => e = .returned (.agg #[.int .i64 1, .int .i64 (n + 1), .int .i64 (seq + 1), .string s, .int .i64 0]) ∧ Below w.heap.size w w' := by
  have h3 := H.c3
  have h4 := H.c4
  have h5 := H.c5
  have hlt : g < w.heap.size := blk_lt H
  have hlk : b < w.heap.size := World.block_lt_of_cell? _ _ k0
  have HH := Aside0.mk H
  clear H
  go_enter Try.func108, Try.ntmps108
  go_wp2_with fail
  have HB1 := Aside0.mk (below_alloc (Below.refl w.heap.size w) (.cells #[.int .i64 0, .int .i64 0, .int .i64 0, .string ⟨#[]⟩, .int .i64 0] 179))
  have HX1 := Aside0.mk (blk_new w (.cells #[.int .i64 0, .int .i64 0, .int .i64 0, .string ⟨#[]⟩, .int .i64 0] 179))
  replace h3 := (HB1.out.cell hlt).trans h3
  replace h4 := (HB1.out.cell hlt).trans h4
  replace h5 := (HB1.out.cell hlt).trans h5
  replace k0 := (HB1.out.cell hlk).trans k0
  replace k1 := (HB1.out.cell hlk).trans k1
  replace k2 := (HB1.out.cell hlk).trans k2
  have HH1 : Cli _ g _ _ _ _ _ _ _ _ _ := blk_below HH.out HB1.out
  generalize w.alloc (.cells #[.int .i64 0, .int .i64 0, .int .i64 0, .string ⟨#[]⟩, .int .i64 0] 179) = w1 at HB1 HX1 h3 h4 h5 k0 k1 k2 HH1 ⊢
  have HC1 := Aside0.mk HH1
  have hlt1 : g < w1.heap.size := Nat.lt_of_lt_of_le hlt HB1.out.size
  have hlk1 : b < w1.heap.size := Nat.lt_of_lt_of_le hlk HB1.out.size
  have hg1 : (g = w1.heap.size) = False := eq_false (by omega)
  have hb1 : (b = w1.heap.size) = False := eq_false (by omega)
  clear HH HH1
  go_region
  have HB2 := Aside0.mk (below_drew1 (below_alloc HB1.out (.cells #[.int .i64 1, .string s, .int .i64 id] 115)))
  have HX2 := Aside0.mk (blk_drew (blk_alloc HX1.out (.cells #[.int .i64 1, .string s, .int .i64 id] 115)))
  have HY2 := Aside0.mk (blk_drew (blk_new w1 (.cells #[.int .i64 1, .string s, .int .i64 id] 115)))
  have hc2 : Cli (w1.alloc (.cells #[.int .i64 1, .string s, .int .i64 id] 115)).drew g n ma ld (.slice (some ⟨b, 0, none⟩) 1 cl) 0 seq since silent h := blk_drew (blk_alloc HC1.out _)
  have HC2 := Aside0.mk hc2
  have hb12 : w1.heap.size < (w1.alloc (.cells #[.int .i64 1, .string s, .int .i64 id] 115)).drew.heap.size := blk_lt HY2.out
  generalize (w1.alloc (.cells #[.int .i64 1, .string s, .int .i64 id] 115)).drew = w2 at HB2 HX2 HY2 hc2 HC2 hb12 ⊢
  clear h3 h4 h5 k0 k1 k2 HX1 HC1 hlt hlk
  obtain ⟨b1, hb1e⟩ : ∃ b1, w1.heap.size = b1 := ⟨_, rfl⟩
  rw [hb1e] at HY2 hb12 hlt1 hlk1 hg1 hb1 ⊢
  clear hb1e
  have y0 : w2.cell? ⟨b1, 0, none⟩ = some (.int .i64 1) := (blk_cell HY2.out 0).trans rfl
  have y1 : w2.cell? ⟨b1, 1, none⟩ = some (.string s) := (blk_cell HY2.out 1).trans rfl
  have y2 : w2.cell? ⟨b1, 2, none⟩ = some (.int .i64 id) := (blk_cell HY2.out 2).trans rfl
  have hne2 : (b1 = w2.heap.size) = False := eq_false (by omega)
  have hg2 : g < w2.heap.size := by omega
  clear hc2
  go_wp2_with fail
  have HB2d := Aside0.mk (below_drew1 HB2.out)
  have HX2d := Aside0.mk (blk_drew HX2.out)
  have HY2d := Aside0.mk (blk_drew HY2.out)
  have HC2d := Aside0.mk (show Cli w2.drew g n ma ld (.slice (some ⟨b, 0, none⟩) 1 cl) 0 seq since silent h from blk_drew HC2.out)
  have hb12d : b1 < w2.drew.heap.size := hb12
  have hg2d : g < w2.drew.heap.size := hg2
  have y0d : w2.drew.cell? ⟨b1, 0, none⟩ = some (.int .i64 1) := y0
  have y1d : w2.drew.cell? ⟨b1, 1, none⟩ = some (.string s) := y1
  have y2d : w2.drew.cell? ⟨b1, 2, none⟩ = some (.int .i64 id) := y2
  clear HB2 HX2 HY2 HC2 hb12 hg2 hne2
  refine start_ (n := 10) (S := fun w' => w'.cell? ⟨b1, 0, none⟩ = some (.int .i64 1) ∧ w'.cell? ⟨b1, 2, none⟩ = some (.int .i64 id)) (ds := [9]) #[false, false, false, false, false, false, false, false, false, false] (by kernel_rfl) rfl rfl (⟨y0, y2⟩) (fun hHeld => ?_)
  refine with_tabW tab2 bits2 (fun HT_ HW_ => ?_)
  generalize w2.drew = w3 at HB2d HX2d HY2d HC2d hb12d hg2d y0d y1d y2d hHeld ⊢
  refine pure_ (i := 0) (N := some 15) (v := ?_) (a' := ?_) #[true, false, false, false, false, false, false, false, false, false] rfl rfl (any_of HT_.out (by kernel_rfl)) (fun _ _ _ h => h) (Or.inl ⟨by rfl, ?_⟩) ?_ ?_
  rotate_left
  · intro w'
    go_simp
    with_reducible rfl
  rotate_left
  · simp only [Act.put, List.setIfInBounds_toArray, List.set_cons_zero, List.set_cons_succ, i64_w, i32_w]
    rfl
  refine take_ (i := 1) (N := some 16) (v := ?_) (a' := ?_) #[true, true, false, false, false, false, false, false, false, false] rfl rfl (take_ofW HT_.out HW_.out (by kernel_rfl)) (fun _ _ _ h => h) (Or.inl ⟨by rfl, ?_⟩) hHeld ?_ ?_
  rotate_left
  · intro w' s0
    go_simp
    with_reducible rfl
  rotate_left
  · simp only [Act.put, List.setIfInBounds_toArray, List.set_cons_zero, List.set_cons_succ, i64_w, i32_w]
    rfl
  refine pure_ (i := 2) (N := some 17) (v := ?_) (a' := ?_) #[true, true, true, false, false, false, false, false, false, false] rfl rfl (any_of HT_.out (by kernel_rfl)) (fun _ _ _ h => h) (Or.inl ⟨by rfl, ?_⟩) ?_ ?_
  rotate_left
  · intro w'
    go_simp
    with_reducible rfl
  rotate_left
  · simp only [Act.put, List.setIfInBounds_toArray, List.set_cons_zero, List.set_cons_succ, i64_w, i32_w]
    rfl
  refine pure_ (i := 4) (N := some 19) (v := ?_) (a' := ?_) #[true, true, true, false, true, false, false, false, false, false] rfl rfl (any_of HT_.out (by kernel_rfl)) (fun _ _ _ h => h) (Or.inl ⟨by rfl, ?_⟩) ?_ ?_
  rotate_left
  · intro w'
    go_simp
    with_reducible rfl
  rotate_left
  · simp only [Act.put, List.setIfInBounds_toArray, List.set_cons_zero, List.set_cons_succ, i64_w, i32_w]
    rfl
  refine take_ (i := 5) (N := some 20) (v := ?_) (a' := ?_) #[true, true, true, false, true, true, false, false, false, false] rfl rfl (take_ofW HT_.out HW_.out (by kernel_rfl)) (fun _ _ _ h => h) (Or.inl ⟨by rfl, ?_⟩) hHeld ?_ ?_
  rotate_left
  · intro w' s0
    go_simp
    with_reducible rfl
  rotate_left
  · simp only [Act.put, List.setIfInBounds_toArray, List.set_cons_zero, List.set_cons_succ, i64_w, i32_w]
    rfl
  refine pure_ (i := 6) (N := some 21) (v := ?_) (a' := ?_) #[true, true, true, false, true, true, true, false, false, false] rfl rfl (any_of HT_.out (by kernel_rfl)) (fun _ _ _ h => h) (Or.inl ⟨by rfl, ?_⟩) ?_ ?_
  rotate_left
  · intro w'
    go_simp
    with_reducible rfl
  rotate_left
  · simp only [Act.put, List.setIfInBounds_toArray, List.set_cons_zero, List.set_cons_succ, i64_w, i32_w]
    rfl
  clear y0 y1 y2
  have HB2 := HB2d
  have HX2 := HX2d
  have HY2 := HY2d
  have HC2 := HC2d
  have y0 := y0d
  have y1 := y1d
  have y2 := y2d
  clear HB2d HX2d HY2d HC2d y0d y1d y2d
  refine join_ (σ := Nat) 1 #[true, true, true, true, true, true, true, true, true, false] (fun q => [(18, .int .i64 (n + 1)), (22, .agg #[.int .i64 1, .int .i64 (n + 1), .int .i64 0, .string ⟨#[]⟩, .int .i64 (if id < 0 then 0 else id)]), (4, .pointer (some ⟨q, 0, none⟩))]) (fun q w' => w3.heap.size ≤ q ∧ w'.heap[q]? = some (.cells #[.int .i64 0, .int .i64 0, .int .i64 0, .string ⟨#[]⟩, .int .i64 0] 179 (0, 0)) ∧ Below w3.heap.size w3 w') ?_ ?_
  rotate_left
  · intro hcont
    have HC := Aside0.mk hcont
    clear hcont
    refine two_ (i := 3) (j := 8) (Ni := some 18) (Nj := some 4) #[true, true, true, true, true, true, true, false, false, false] #[true, true, true, false, true, true, true, false, true, false] rfl rfl rfl rfl (two_of HT_.out (by kernel_rfl)) (by decide) (by decide) (fun K hK => ?_) (fun K hK => ?_)
    · refine goes_ Try.func71 (by kernel_rfl) rfl #[.pointer (some ⟨g, 0, none⟩)] (by rfl) rfl rfl (by simp; rfl) ?_
      refine (session_calls _ g n ma ld (.slice (some ⟨b, 0, none⟩) 1 cl) 0 seq since silent h HC2.out hn).mono ?_
      rintro e w' ⟨rfl, rfl⟩
      refine ⟨_, rfl, ?_⟩
      refine hK.out _ _ ⟨y0, y2⟩ (fun hHeld => ?_)
      clear hK K
      refine norm_ (a' := ?_) ?_ ?_
      rotate_left
      · show Act.put _ (some 18) _ = _
        simp only [Act.put, List.setIfInBounds_toArray, List.set_cons_zero, List.set_cons_succ, i64_w, i32_w]
        rfl
      refine pure_ (i := 7) (N := some 22) (v := ?_) (a' := ?_) #[true, true, true, true, true, true, true, true, false, false] rfl rfl (any_of HT_.out (by kernel_rfl)) (fun _ _ _ h => h) (Or.inl ⟨by rfl, ?_⟩) ?_ ?_
      rotate_left
      · intro w'
        go_simp
        with_reducible rfl
      rotate_left
      · simp only [Act.put, List.setIfInBounds_toArray, List.set_cons_zero, List.set_cons_succ, i64_w, i32_w]
        rfl
      refine one_ (i := 8) (N := some 4) #[true, true, true, true, true, true, true, true, true, false] rfl rfl (one_of HT_.out (by kernel_rfl)) (by decide) (fun K hK => ?_)
      refine box_step (N := 4) (by rfl) rfl (cs := #[.int .i64 0, .int .i64 0, .int .i64 0, .string ⟨#[]⟩, .int .i64 0]) (t := 179) (by go_simp; first | done | rfl) ?_
      intro q hq wa hbq hba
      refine hK.out _ _ ⟨(hba.cell (blk_lt HY2.out)).trans y0, (hba.cell (blk_lt HY2.out)).trans y2⟩ (fun hHeld => ?_)
      clear hK K
      exact norm_ (by rfl) (HC.out q _ ⟨by omega, hbq, hba⟩)
    · refine box_step (N := 4) (by rfl) rfl (cs := #[.int .i64 0, .int .i64 0, .int .i64 0, .string ⟨#[]⟩, .int .i64 0]) (t := 179) (by go_simp; first | done | rfl) ?_
      intro q hq wa hbq hba
      have z0 := (hba.cell (p := ⟨b1, 0, none⟩) (blk_lt HY2.out)).trans y0
      have z2 := (hba.cell (p := ⟨b1, 2, none⟩) (blk_lt HY2.out)).trans y2
      have hca : Cli wa g n ma ld (.slice (some ⟨b, 0, none⟩) 1 cl) 0 seq since silent h := blk_below HC2.out hba
      refine hK.out _ _ ⟨z0, z2⟩ (fun hHeld => ?_)
      clear hK K
      refine norm_ (a' := ?_) ?_ ?_
      rotate_left
      · show Act.put _ (some 4) _ = _
        simp only [Act.put, List.setIfInBounds_toArray, List.set_cons_zero, List.set_cons_succ, i64_w, i32_w]
        rfl
      refine one_ (i := 3) (N := some 18) #[true, true, true, true, true, true, true, false, true, false] rfl rfl (one_of HT_.out (by kernel_rfl)) (by decide) (fun K hK => ?_)
      refine goes_ Try.func71 (by kernel_rfl) rfl #[.pointer (some ⟨g, 0, none⟩)] (by rfl) rfl rfl (by simp; rfl) ?_
      refine (session_calls _ g n ma ld (.slice (some ⟨b, 0, none⟩) 1 cl) 0 seq since silent h hca hn).mono ?_
      rintro e w' ⟨rfl, rfl⟩
      refine ⟨_, rfl, ?_⟩
      refine hK.out _ _ ⟨z0, z2⟩ (fun hHeld => ?_)
      clear hK K
      refine norm_ (a' := ?_) ?_ ?_
      rotate_left
      · show Act.put _ (some 18) _ = _
        simp only [Act.put, List.setIfInBounds_toArray, List.set_cons_zero, List.set_cons_succ, i64_w, i32_w]
        rfl
      refine pure_ (i := 7) (N := some 22) (v := ?_) (a' := ?_) #[true, true, true, true, true, true, true, true, true, false] rfl rfl (any_of HT_.out (by kernel_rfl)) (fun _ _ _ h => h) (Or.inl ⟨by rfl, ?_⟩) ?_ ?_
      rotate_left
      · intro w'
        go_simp
        with_reducible rfl
      rotate_left
      · simp only [Act.put, List.setIfInBounds_toArray, List.set_cons_zero, List.set_cons_succ, i64_w, i32_w]
        rfl
      exact norm_ (by rfl) (HC.out q _ ⟨by omega, hbq, hba⟩)
  · rintro q w4 ⟨hq, hbq, hb4⟩
    refine norm_ (a' := ?_) ?_ ?_
    rotate_left
    · simp only [putAll, Act.put, List.setIfInBounds_toArray, List.set_cons_zero, List.set_cons_succ, i64_w, i32_w]
      rfl
    have hc4 : Cli w4 g n ma ld (.slice (some ⟨b, 0, none⟩) 1 cl) 0 seq since silent h := blk_below HC2.out hb4
    have HC4 := Aside0.mk hc4
    have HB4 := Aside0.mk (below_then HB2.out HB2.out.size hb4)
    have HX4 := Aside0.mk (blk_below HX2.out hb4)
    have HY4 := Aside0.mk (blk_below HY2.out hb4)
    have HQ4 := Aside0.mk hbq
    have hqb : b1 < q := by have := blk_lt HY2.out; omega
    have hqg : g < q := by have := blk_lt HC2.out; omega
    have hqw : w.heap.size < q := by have := blk_lt HX2.out; omega
    have q0 : w4.cell? ⟨q, 0, none⟩ = some (.int .i64 0) := (blk_cell hbq 0).trans rfl
    have f0 := blk_frozen hbq 0
    have q1 : w4.cell? ⟨q, 1, none⟩ = some (.int .i64 0) := (blk_cell hbq 1).trans rfl
    have f1 := blk_frozen hbq 1
    have q2 : w4.cell? ⟨q, 2, none⟩ = some (.int .i64 0) := (blk_cell hbq 2).trans rfl
    have f2 := blk_frozen hbq 2
    have q3 : w4.cell? ⟨q, 3, none⟩ = some (.string ⟨#[]⟩) := (blk_cell hbq 3).trans rfl
    have f3 := blk_frozen hbq 3
    have q4 : w4.cell? ⟨q, 4, none⟩ = some (.int .i64 0) := (blk_cell hbq 4).trans rfl
    have f4 := blk_frozen hbq 4
    clear hc4 hbq hb4 y0 y1 y2
    refine last_ (i := 9) (N := none) #[true, true, true, true, true, true, true, true, true, true] rfl rfl (one_of HT_.out (by kernel_rfl)) (by decide) (fun K hK => ?_)
    rw [if_pos (show Region.wanted _ _ = true from rfl)]
    refine wp_store_row 179 (.tmp 4) (.tmp 22) rfl q #[.int .i64 1, .int .i64 (n + 1), .int .i64 0, .string ⟨#[]⟩, .int .i64 (if id < 0 then 0 else id)] rfl rfl 179 _ HQ4.out (by kernel_rfl) rfl (by simp [Value.oneCell']) ?_
    have HQ5 := Aside0.mk (setRow_heap w4 q _ #[.int .i64 1, .int .i64 (n + 1), .int .i64 0, .string ⟨#[]⟩, .int .i64 (if id < 0 then 0 else id)] 179 (0, 0) HQ4.out)
    have HX5 := Aside0.mk ((setRow_other w4 q w.heap.size #[.int .i64 1, .int .i64 (n + 1), .int .i64 0, .string ⟨#[]⟩, .int .i64 (if id < 0 then 0 else id)] (by omega)).trans HX4.out)
    have HY5 := Aside0.mk ((setRow_other w4 q b1 #[.int .i64 1, .int .i64 (n + 1), .int .i64 0, .string ⟨#[]⟩, .int .i64 (if id < 0 then 0 else id)] (by omega)).trans HY4.out)
    have HC5 := Aside0.mk (show Cli _ g n ma ld (.slice (some ⟨b, 0, none⟩) 1 cl) 0 seq since silent h from (setRow_other w4 q g #[.int .i64 1, .int .i64 (n + 1), .int .i64 0, .string ⟨#[]⟩, .int .i64 (if id < 0 then 0 else id)] (by omega)).trans HC4.out)
    have HB5 := Aside0.mk (below_setRow HB4.out (show w.heap.size ≤ q by omega) #[.int .i64 1, .int .i64 (n + 1), .int .i64 0, .string ⟨#[]⟩, .int .i64 (if id < 0 then 0 else id)])
    refine hK.out _ _ ?_
    clear hK K
    refine norm_ (a' := ?_) ?_ ?_
    rotate_left
    · show Act.put _ none _ = _
      simp only [Act.put]
      rfl
    refine done_ (done_of HT_.out (by kernel_rfl)) ?_
    generalize w4.setRow q #[.int .i64 1, .int .i64 (n + 1), .int .i64 0, .string ⟨#[]⟩, .int .i64 (if id < 0 then 0 else id)] = w5 at HQ5 HX5 HY5 HC5 HB5 ⊢
    clear HQ4 HX4 HY4 HC4 HB4 hHeld q0 q1 q2 q3 q4 f0 f1 f2 f3 f4
    have y0 : w5.cell? ⟨b1, 0, none⟩ = some (.int .i64 1) := (blk_cell HY5.out 0).trans rfl
    have y1 : w5.cell? ⟨b1, 1, none⟩ = some (.string s) := (blk_cell HY5.out 1).trans rfl
    have y2 : w5.cell? ⟨b1, 2, none⟩ = some (.int .i64 id) := (blk_cell HY5.out 2).trans rfl
    have hs5 := HC5.out.c5
    have hs4 := HC5.out.c4
    have q0 : w5.cell? ⟨q, 0, none⟩ = some (.int .i64 1) := (blk_cell HQ5.out 0).trans rfl
    have f0 := blk_frozen HQ5.out 0
    have q1 : w5.cell? ⟨q, 1, none⟩ = some (.int .i64 (n + 1)) := (blk_cell HQ5.out 1).trans rfl
    have f1 := blk_frozen HQ5.out 1
    have q2 : w5.cell? ⟨q, 2, none⟩ = some (.int .i64 0) := (blk_cell HQ5.out 2).trans rfl
    have f2 := blk_frozen HQ5.out 2
    have q3 : w5.cell? ⟨q, 3, none⟩ = some (.string ⟨#[]⟩) := (blk_cell HQ5.out 3).trans rfl
    have f3 := blk_frozen HQ5.out 3
    have q4 : w5.cell? ⟨q, 4, none⟩ = some (.int .i64 (if id < 0 then 0 else id)) := (blk_cell HQ5.out 4).trans rfl
    have f4 := blk_frozen HQ5.out 4
    generalize (if id < 0 then (0 : Int) else id) = iv at HQ5 q4 ⊢
    have x0 : w5.cell? ⟨w.heap.size, 0, none⟩ = some (.int .i64 0) := (blk_cell HX5.out 0).trans rfl
    have xf0 := blk_frozen HX5.out 0
    have x1 : w5.cell? ⟨w.heap.size, 1, none⟩ = some (.int .i64 0) := (blk_cell HX5.out 1).trans rfl
    have xf1 := blk_frozen HX5.out 1
    have x2 : w5.cell? ⟨w.heap.size, 2, none⟩ = some (.int .i64 0) := (blk_cell HX5.out 2).trans rfl
    have xf2 := blk_frozen HX5.out 2
    have x3 : w5.cell? ⟨w.heap.size, 3, none⟩ = some (.string ⟨#[]⟩) := (blk_cell HX5.out 3).trans rfl
    have xf3 := blk_frozen HX5.out 3
    have x4 : w5.cell? ⟨w.heap.size, 4, none⟩ = some (.int .i64 0) := (blk_cell HX5.out 4).trans rfl
    have xf4 := blk_frozen HX5.out 4
    have nq : (w.heap.size = q) = False := eq_false (by omega)
    have nq' : (q = w.heap.size) = False := eq_false (by omega)
    go_wp2_with fail
    go_region_with (fail)
    go_wp2_with fail
    all_goals
      have hqx : w.heap.size ≠ q := by omega
      have t0 := blk_far (p := ⟨q, 3, none⟩) HX5.out hqx (.string s)
      have t1 := blk_far (p := ⟨q, 4, none⟩) t0 hqx (.int .i64 0)
      have t2 := blk_far (p := ⟨q, 2, none⟩) t1 hqx (.int .i64 (seq + 1))
      have hz := blk_drew (blk_set (blk_set (blk_set (blk_set (blk_set t2 0 (.int .i64 1)) 1 (.int .i64 (n + 1))) 2 (.int .i64 (seq + 1))) 3 (.string s)) 4 (.int .i64 0))
      simp only [List.setIfInBounds_toArray, List.set_cons_zero, List.set_cons_succ] at hz
      have hq0 : w.heap.size ≤ q := by omega
      have hx0 := Nat.le_refl w.heap.size
      refine bodyPost_ret (v := .agg #[.int .i64 1, .int .i64 (n + 1), .int .i64 (seq + 1), .string s, .int .i64 0]) (results_cell_row rfl _ _ w.heap.size 179 _ _ _ rfl hz Try.underlying179 rfl (by kernel_rfl)) rfl ⟨rfl, ?_⟩
      exact below_drew1 (below_set (below_set (below_set (below_set (below_set (below_set (below_set (below_set HB5.out hq0) hq0) hq0) hx0) hx0) hx0) hx0) hx0)
set_option maxHeartbeats 8000000 in
set_option maxRecDepth 100000 in
theorem ask_result (w : World) (g : Nat) (n ma ld : Int) (b cl : Nat) (seq since silent : Int) (h : Value) (s : ByteArray) (id : Int) (H : Cli w g n ma ld (.slice (some ⟨b, 0, none⟩) 1 cl) 0 seq since silent h) (hn : 0 ≤ n ∧ n ≤ 100) (hi : 0 ≤ id)
    (k0 : w.cell? ⟨b, 0, none⟩ = some (.int .i64 4)) (k1 : w.cell? ⟨b, 1, none⟩ = some (.string s)) (k2 : w.cell? ⟨b, 2, none⟩ = some (.int .i64 id)) :
    Calls Try.prog 108 #[.pointer (some ⟨g, 0, none⟩)] w fun e w' => e = .returned (.agg #[.int .i64 3, .int .i64 (n + 1), .int .i64 0, .string ⟨#[]⟩, .int .i64 id]) ∧ Below w.heap.size w w' := by
  have h3 := H.c3
  have h4 := H.c4
  have h5 := H.c5
  have hlt : g < w.heap.size := blk_lt H
  have hlk : b < w.heap.size := World.block_lt_of_cell? _ _ k0
  have HH := Aside0.mk H
  clear H
  go_enter Try.func108, Try.ntmps108
  go_wp2_with fail
  have HB1 := Aside0.mk (below_alloc (Below.refl w.heap.size w) (.cells #[.int .i64 0, .int .i64 0, .int .i64 0, .string ⟨#[]⟩, .int .i64 0] 179))
  have HX1 := Aside0.mk (blk_new w (.cells #[.int .i64 0, .int .i64 0, .int .i64 0, .string ⟨#[]⟩, .int .i64 0] 179))
  replace h3 := (HB1.out.cell hlt).trans h3
  replace h4 := (HB1.out.cell hlt).trans h4
  replace h5 := (HB1.out.cell hlt).trans h5
  replace k0 := (HB1.out.cell hlk).trans k0
  replace k1 := (HB1.out.cell hlk).trans k1
  replace k2 := (HB1.out.cell hlk).trans k2
  have HH1 : Cli _ g _ _ _ _ _ _ _ _ _ := blk_below HH.out HB1.out
  generalize w.alloc (.cells #[.int .i64 0, .int .i64 0, .int .i64 0, .string ⟨#[]⟩, .int .i64 0] 179) = w1 at HB1 HX1 h3 h4 h5 k0 k1 k2 HH1 ⊢
  have HC1 := Aside0.mk HH1
  have hlt1 : g < w1.heap.size := Nat.lt_of_lt_of_le hlt HB1.out.size
  have hlk1 : b < w1.heap.size := Nat.lt_of_lt_of_le hlk HB1.out.size
  have hg1 : (g = w1.heap.size) = False := eq_false (by omega)
  have hb1 : (b = w1.heap.size) = False := eq_false (by omega)
  clear HH HH1
  go_region
  have HB2 := Aside0.mk (below_drew1 (below_alloc HB1.out (.cells #[.int .i64 4, .string s, .int .i64 id] 115)))
  have HX2 := Aside0.mk (blk_drew (blk_alloc HX1.out (.cells #[.int .i64 4, .string s, .int .i64 id] 115)))
  have HY2 := Aside0.mk (blk_drew (blk_new w1 (.cells #[.int .i64 4, .string s, .int .i64 id] 115)))
  have hc2 : Cli (w1.alloc (.cells #[.int .i64 4, .string s, .int .i64 id] 115)).drew g n ma ld (.slice (some ⟨b, 0, none⟩) 1 cl) 0 seq since silent h := blk_drew (blk_alloc HC1.out _)
  have HC2 := Aside0.mk hc2
  have hb12 : w1.heap.size < (w1.alloc (.cells #[.int .i64 4, .string s, .int .i64 id] 115)).drew.heap.size := blk_lt HY2.out
  generalize (w1.alloc (.cells #[.int .i64 4, .string s, .int .i64 id] 115)).drew = w2 at HB2 HX2 HY2 hc2 HC2 hb12 ⊢
  clear h3 h4 h5 k0 k1 k2 HX1 HC1 hlt hlk
  obtain ⟨b1, hb1e⟩ : ∃ b1, w1.heap.size = b1 := ⟨_, rfl⟩
  rw [hb1e] at HY2 hb12 hlt1 hlk1 hg1 hb1 ⊢
  clear hb1e
  have y0 : w2.cell? ⟨b1, 0, none⟩ = some (.int .i64 4) := (blk_cell HY2.out 0).trans rfl
  have y1 : w2.cell? ⟨b1, 1, none⟩ = some (.string s) := (blk_cell HY2.out 1).trans rfl
  have y2 : w2.cell? ⟨b1, 2, none⟩ = some (.int .i64 id) := (blk_cell HY2.out 2).trans rfl
  have hne2 : (b1 = w2.heap.size) = False := eq_false (by omega)
  have hg2 : g < w2.heap.size := by omega
  clear hc2
  go_wp2_with fail
  have HB2d := Aside0.mk (below_drew1 HB2.out)
  have HX2d := Aside0.mk (blk_drew HX2.out)
  have HY2d := Aside0.mk (blk_drew HY2.out)
  have HC2d := Aside0.mk (show Cli w2.drew g n ma ld (.slice (some ⟨b, 0, none⟩) 1 cl) 0 seq since silent h from blk_drew HC2.out)
  have hb12d : b1 < w2.drew.heap.size := hb12
  have hg2d : g < w2.drew.heap.size := hg2
  have y0d : w2.drew.cell? ⟨b1, 0, none⟩ = some (.int .i64 4) := y0
  have y1d : w2.drew.cell? ⟨b1, 1, none⟩ = some (.string s) := y1
  have y2d : w2.drew.cell? ⟨b1, 2, none⟩ = some (.int .i64 id) := y2
  clear HB2 HX2 HY2 HC2 hb12 hg2 hne2
  refine start_ (n := 10) (S := fun w' => w'.cell? ⟨b1, 0, none⟩ = some (.int .i64 4) ∧ w'.cell? ⟨b1, 2, none⟩ = some (.int .i64 id)) (ds := [9]) #[false, false, false, false, false, false, false, false, false, false] (by kernel_rfl) rfl rfl (⟨y0, y2⟩) (fun hHeld => ?_)
  refine with_tabW tab2 bits2 (fun HT_ HW_ => ?_)
  generalize w2.drew = w3 at HB2d HX2d HY2d HC2d hb12d hg2d y0d y1d y2d hHeld ⊢
  refine pure_ (i := 0) (N := some 15) (v := ?_) (a' := ?_) #[true, false, false, false, false, false, false, false, false, false] rfl rfl (any_of HT_.out (by kernel_rfl)) (fun _ _ _ h => h) (Or.inl ⟨by rfl, ?_⟩) ?_ ?_
  rotate_left
  · intro w'
    go_simp
    with_reducible rfl
  rotate_left
  · simp only [Act.put, List.setIfInBounds_toArray, List.set_cons_zero, List.set_cons_succ, i64_w, i32_w]
    rfl
  refine take_ (i := 1) (N := some 16) (v := ?_) (a' := ?_) #[true, true, false, false, false, false, false, false, false, false] rfl rfl (take_ofW HT_.out HW_.out (by kernel_rfl)) (fun _ _ _ h => h) (Or.inl ⟨by rfl, ?_⟩) hHeld ?_ ?_
  rotate_left
  · intro w' s0
    go_simp
    with_reducible rfl
  rotate_left
  · simp only [Act.put, List.setIfInBounds_toArray, List.set_cons_zero, List.set_cons_succ, i64_w, i32_w]
    rfl
  refine pure_ (i := 2) (N := some 17) (v := ?_) (a' := ?_) #[true, true, true, false, false, false, false, false, false, false] rfl rfl (any_of HT_.out (by kernel_rfl)) (fun _ _ _ h => h) (Or.inl ⟨by rfl, ?_⟩) ?_ ?_
  rotate_left
  · intro w'
    go_simp
    with_reducible rfl
  rotate_left
  · simp only [Act.put, List.setIfInBounds_toArray, List.set_cons_zero, List.set_cons_succ, i64_w, i32_w]
    rfl
  refine pure_ (i := 4) (N := some 19) (v := ?_) (a' := ?_) #[true, true, true, false, true, false, false, false, false, false] rfl rfl (any_of HT_.out (by kernel_rfl)) (fun _ _ _ h => h) (Or.inl ⟨by rfl, ?_⟩) ?_ ?_
  rotate_left
  · intro w'
    go_simp
    with_reducible rfl
  rotate_left
  · simp only [Act.put, List.setIfInBounds_toArray, List.set_cons_zero, List.set_cons_succ, i64_w, i32_w]
    rfl
  refine take_ (i := 5) (N := some 20) (v := ?_) (a' := ?_) #[true, true, true, false, true, true, false, false, false, false] rfl rfl (take_ofW HT_.out HW_.out (by kernel_rfl)) (fun _ _ _ h => h) (Or.inl ⟨by rfl, ?_⟩) hHeld ?_ ?_
  rotate_left
  · intro w' s0
    go_simp
    with_reducible rfl
  rotate_left
  · simp only [Act.put, List.setIfInBounds_toArray, List.set_cons_zero, List.set_cons_succ, i64_w, i32_w]
    rfl
  refine pure_ (i := 6) (N := some 21) (v := ?_) (a' := ?_) #[true, true, true, false, true, true, true, false, false, false] rfl rfl (any_of HT_.out (by kernel_rfl)) (fun _ _ _ h => h) (Or.inl ⟨by rfl, ?_⟩) ?_ ?_
  rotate_left
  · intro w'
    go_simp
    with_reducible rfl
  rotate_left
  · simp only [Act.put, List.setIfInBounds_toArray, List.set_cons_zero, List.set_cons_succ, i64_w, i32_w]
    rfl
  clear y0 y1 y2
  have HB2 := HB2d
  have HX2 := HX2d
  have HY2 := HY2d
  have HC2 := HC2d
  have y0 := y0d
  have y1 := y1d
  have y2 := y2d
  clear HB2d HX2d HY2d HC2d y0d y1d y2d
  refine join_ (σ := Nat) 1 #[true, true, true, true, true, true, true, true, true, false] (fun q => [(18, .int .i64 (n + 1)), (22, .agg #[.int .i64 4, .int .i64 (n + 1), .int .i64 0, .string ⟨#[]⟩, .int .i64 (if id < 0 then 0 else id)]), (4, .pointer (some ⟨q, 0, none⟩))]) (fun q w' => w3.heap.size ≤ q ∧ w'.heap[q]? = some (.cells #[.int .i64 0, .int .i64 0, .int .i64 0, .string ⟨#[]⟩, .int .i64 0] 179 (0, 0)) ∧ Below w3.heap.size w3 w') ?_ ?_
  rotate_left
  · intro hcont
    have HC := Aside0.mk hcont
    clear hcont
    refine two_ (i := 3) (j := 8) (Ni := some 18) (Nj := some 4) #[true, true, true, true, true, true, true, false, false, false] #[true, true, true, false, true, true, true, false, true, false] rfl rfl rfl rfl (two_of HT_.out (by kernel_rfl)) (by decide) (by decide) (fun K hK => ?_) (fun K hK => ?_)
    · refine goes_ Try.func71 (by kernel_rfl) rfl #[.pointer (some ⟨g, 0, none⟩)] (by rfl) rfl rfl (by simp; rfl) ?_
      refine (session_calls _ g n ma ld (.slice (some ⟨b, 0, none⟩) 1 cl) 0 seq since silent h HC2.out hn).mono ?_
      rintro e w' ⟨rfl, rfl⟩
      refine ⟨_, rfl, ?_⟩
      refine hK.out _ _ ⟨y0, y2⟩ (fun hHeld => ?_)
      clear hK K
      refine norm_ (a' := ?_) ?_ ?_
      rotate_left
      · show Act.put _ (some 18) _ = _
        simp only [Act.put, List.setIfInBounds_toArray, List.set_cons_zero, List.set_cons_succ, i64_w, i32_w]
        rfl
      refine pure_ (i := 7) (N := some 22) (v := ?_) (a' := ?_) #[true, true, true, true, true, true, true, true, false, false] rfl rfl (any_of HT_.out (by kernel_rfl)) (fun _ _ _ h => h) (Or.inl ⟨by rfl, ?_⟩) ?_ ?_
      rotate_left
      · intro w'
        go_simp
        with_reducible rfl
      rotate_left
      · simp only [Act.put, List.setIfInBounds_toArray, List.set_cons_zero, List.set_cons_succ, i64_w, i32_w]
        rfl
      refine one_ (i := 8) (N := some 4) #[true, true, true, true, true, true, true, true, true, false] rfl rfl (one_of HT_.out (by kernel_rfl)) (by decide) (fun K hK => ?_)
      refine box_step (N := 4) (by rfl) rfl (cs := #[.int .i64 0, .int .i64 0, .int .i64 0, .string ⟨#[]⟩, .int .i64 0]) (t := 179) (by go_simp; first | done | rfl) ?_
      intro q hq wa hbq hba
      refine hK.out _ _ ⟨(hba.cell (blk_lt HY2.out)).trans y0, (hba.cell (blk_lt HY2.out)).trans y2⟩ (fun hHeld => ?_)
      clear hK K
      exact norm_ (by rfl) (HC.out q _ ⟨by omega, hbq, hba⟩)
    · refine box_step (N := 4) (by rfl) rfl (cs := #[.int .i64 0, .int .i64 0, .int .i64 0, .string ⟨#[]⟩, .int .i64 0]) (t := 179) (by go_simp; first | done | rfl) ?_
      intro q hq wa hbq hba
      have z0 := (hba.cell (p := ⟨b1, 0, none⟩) (blk_lt HY2.out)).trans y0
      have z2 := (hba.cell (p := ⟨b1, 2, none⟩) (blk_lt HY2.out)).trans y2
      have hca : Cli wa g n ma ld (.slice (some ⟨b, 0, none⟩) 1 cl) 0 seq since silent h := blk_below HC2.out hba
      refine hK.out _ _ ⟨z0, z2⟩ (fun hHeld => ?_)
      clear hK K
      refine norm_ (a' := ?_) ?_ ?_
      rotate_left
      · show Act.put _ (some 4) _ = _
        simp only [Act.put, List.setIfInBounds_toArray, List.set_cons_zero, List.set_cons_succ, i64_w, i32_w]
        rfl
      refine one_ (i := 3) (N := some 18) #[true, true, true, true, true, true, true, false, true, false] rfl rfl (one_of HT_.out (by kernel_rfl)) (by decide) (fun K hK => ?_)
      refine goes_ Try.func71 (by kernel_rfl) rfl #[.pointer (some ⟨g, 0, none⟩)] (by rfl) rfl rfl (by simp; rfl) ?_
      refine (session_calls _ g n ma ld (.slice (some ⟨b, 0, none⟩) 1 cl) 0 seq since silent h hca hn).mono ?_
      rintro e w' ⟨rfl, rfl⟩
      refine ⟨_, rfl, ?_⟩
      refine hK.out _ _ ⟨z0, z2⟩ (fun hHeld => ?_)
      clear hK K
      refine norm_ (a' := ?_) ?_ ?_
      rotate_left
      · show Act.put _ (some 18) _ = _
        simp only [Act.put, List.setIfInBounds_toArray, List.set_cons_zero, List.set_cons_succ, i64_w, i32_w]
        rfl
      refine pure_ (i := 7) (N := some 22) (v := ?_) (a' := ?_) #[true, true, true, true, true, true, true, true, true, false] rfl rfl (any_of HT_.out (by kernel_rfl)) (fun _ _ _ h => h) (Or.inl ⟨by rfl, ?_⟩) ?_ ?_
      rotate_left
      · intro w'
        go_simp
        with_reducible rfl
      rotate_left
      · simp only [Act.put, List.setIfInBounds_toArray, List.set_cons_zero, List.set_cons_succ, i64_w, i32_w]
        rfl
      exact norm_ (by rfl) (HC.out q _ ⟨by omega, hbq, hba⟩)
  · rintro q w4 ⟨hq, hbq, hb4⟩
    refine norm_ (a' := ?_) ?_ ?_
    rotate_left
    · simp only [putAll, Act.put, List.setIfInBounds_toArray, List.set_cons_zero, List.set_cons_succ, i64_w, i32_w]
      rfl
    have hc4 : Cli w4 g n ma ld (.slice (some ⟨b, 0, none⟩) 1 cl) 0 seq since silent h := blk_below HC2.out hb4
    have HC4 := Aside0.mk hc4
    have HB4 := Aside0.mk (below_then HB2.out HB2.out.size hb4)
    have HX4 := Aside0.mk (blk_below HX2.out hb4)
    have HY4 := Aside0.mk (blk_below HY2.out hb4)
    have HQ4 := Aside0.mk hbq
    have hqb : b1 < q := by have := blk_lt HY2.out; omega
    have hqg : g < q := by have := blk_lt HC2.out; omega
    have hqw : w.heap.size < q := by have := blk_lt HX2.out; omega
    have q0 : w4.cell? ⟨q, 0, none⟩ = some (.int .i64 0) := (blk_cell hbq 0).trans rfl
    have f0 := blk_frozen hbq 0
    have q1 : w4.cell? ⟨q, 1, none⟩ = some (.int .i64 0) := (blk_cell hbq 1).trans rfl
    have f1 := blk_frozen hbq 1
    have q2 : w4.cell? ⟨q, 2, none⟩ = some (.int .i64 0) := (blk_cell hbq 2).trans rfl
    have f2 := blk_frozen hbq 2
    have q3 : w4.cell? ⟨q, 3, none⟩ = some (.string ⟨#[]⟩) := (blk_cell hbq 3).trans rfl
    have f3 := blk_frozen hbq 3
    have q4 : w4.cell? ⟨q, 4, none⟩ = some (.int .i64 0) := (blk_cell hbq 4).trans rfl
    have f4 := blk_frozen hbq 4
    clear hc4 hbq hb4 y0 y1 y2
    refine last_ (i := 9) (N := none) #[true, true, true, true, true, true, true, true, true, true] rfl rfl (one_of HT_.out (by kernel_rfl)) (by decide) (fun K hK => ?_)
    rw [if_pos (show Region.wanted _ _ = true from rfl)]
    refine wp_store_row 179 (.tmp 4) (.tmp 22) rfl q #[.int .i64 4, .int .i64 (n + 1), .int .i64 0, .string ⟨#[]⟩, .int .i64 (if id < 0 then 0 else id)] rfl rfl 179 _ HQ4.out (by kernel_rfl) rfl (by simp [Value.oneCell']) ?_
    have HQ5 := Aside0.mk (setRow_heap w4 q _ #[.int .i64 4, .int .i64 (n + 1), .int .i64 0, .string ⟨#[]⟩, .int .i64 (if id < 0 then 0 else id)] 179 (0, 0) HQ4.out)
    have HX5 := Aside0.mk ((setRow_other w4 q w.heap.size #[.int .i64 4, .int .i64 (n + 1), .int .i64 0, .string ⟨#[]⟩, .int .i64 (if id < 0 then 0 else id)] (by omega)).trans HX4.out)
    have HY5 := Aside0.mk ((setRow_other w4 q b1 #[.int .i64 4, .int .i64 (n + 1), .int .i64 0, .string ⟨#[]⟩, .int .i64 (if id < 0 then 0 else id)] (by omega)).trans HY4.out)
    have HC5 := Aside0.mk (show Cli _ g n ma ld (.slice (some ⟨b, 0, none⟩) 1 cl) 0 seq since silent h from (setRow_other w4 q g #[.int .i64 4, .int .i64 (n + 1), .int .i64 0, .string ⟨#[]⟩, .int .i64 (if id < 0 then 0 else id)] (by omega)).trans HC4.out)
    have HB5 := Aside0.mk (below_setRow HB4.out (show w.heap.size ≤ q by omega) #[.int .i64 4, .int .i64 (n + 1), .int .i64 0, .string ⟨#[]⟩, .int .i64 (if id < 0 then 0 else id)])
    refine hK.out _ _ ?_
    clear hK K
    refine norm_ (a' := ?_) ?_ ?_
    rotate_left
    · show Act.put _ none _ = _
      simp only [Act.put]
      rfl
    refine done_ (done_of HT_.out (by kernel_rfl)) ?_
    generalize w4.setRow q #[.int .i64 4, .int .i64 (n + 1), .int .i64 0, .string ⟨#[]⟩, .int .i64 (if id < 0 then 0 else id)] = w5 at HQ5 HX5 HY5 HC5 HB5 ⊢
    clear HQ4 HX4 HY4 HC4 HB4 hHeld q0 q1 q2 q3 q4 f0 f1 f2 f3 f4
    have y0 : w5.cell? ⟨b1, 0, none⟩ = some (.int .i64 4) := (blk_cell HY5.out 0).trans rfl
    have y1 : w5.cell? ⟨b1, 1, none⟩ = some (.string s) := (blk_cell HY5.out 1).trans rfl
    have y2 : w5.cell? ⟨b1, 2, none⟩ = some (.int .i64 id) := (blk_cell HY5.out 2).trans rfl
    have hs5 := HC5.out.c5
    have hs4 := HC5.out.c4
    have q0 : w5.cell? ⟨q, 0, none⟩ = some (.int .i64 4) := (blk_cell HQ5.out 0).trans rfl
    have f0 := blk_frozen HQ5.out 0
    have q1 : w5.cell? ⟨q, 1, none⟩ = some (.int .i64 (n + 1)) := (blk_cell HQ5.out 1).trans rfl
    have f1 := blk_frozen HQ5.out 1
    have q2 : w5.cell? ⟨q, 2, none⟩ = some (.int .i64 0) := (blk_cell HQ5.out 2).trans rfl
    have f2 := blk_frozen HQ5.out 2
    have q3 : w5.cell? ⟨q, 3, none⟩ = some (.string ⟨#[]⟩) := (blk_cell HQ5.out 3).trans rfl
    have f3 := blk_frozen HQ5.out 3
    have q4 : w5.cell? ⟨q, 4, none⟩ = some (.int .i64 (if id < 0 then 0 else id)) := (blk_cell HQ5.out 4).trans rfl
    have f4 := blk_frozen HQ5.out 4
    have hiv : (if id < 0 then (0 : Int) else id) = id := if_neg (by omega)
    generalize (if id < 0 then (0 : Int) else id) = iv at HQ5 q4 hiv ⊢
    have hiv' := Aside0.mk hiv
    clear hiv
    have x0 : w5.cell? ⟨w.heap.size, 0, none⟩ = some (.int .i64 0) := (blk_cell HX5.out 0).trans rfl
    have xf0 := blk_frozen HX5.out 0
    have x1 : w5.cell? ⟨w.heap.size, 1, none⟩ = some (.int .i64 0) := (blk_cell HX5.out 1).trans rfl
    have xf1 := blk_frozen HX5.out 1
    have x2 : w5.cell? ⟨w.heap.size, 2, none⟩ = some (.int .i64 0) := (blk_cell HX5.out 2).trans rfl
    have xf2 := blk_frozen HX5.out 2
    have x3 : w5.cell? ⟨w.heap.size, 3, none⟩ = some (.string ⟨#[]⟩) := (blk_cell HX5.out 3).trans rfl
    have xf3 := blk_frozen HX5.out 3
    have x4 : w5.cell? ⟨w.heap.size, 4, none⟩ = some (.int .i64 0) := (blk_cell HX5.out 4).trans rfl
    have xf4 := blk_frozen HX5.out 4
    have nq : (w.heap.size = q) = False := eq_false (by omega)
    have nq' : (q = w.heap.size) = False := eq_false (by omega)
    go_wp2_with fail
    go_region_with (fail)
    go_wp2_with fail
    all_goals
      have hq0 : w.heap.size ≤ q := by omega
      have hx0 := Nat.le_refl w.heap.size
      have hqx : w.heap.size ≠ q := by omega
      have t0 := blk_far (p := ⟨q, 0, none⟩) HX5.out hqx (.int .i64 3)
      have t1 := blk_far (p := ⟨q, 2, none⟩) t0 hqx (.int .i64 0)
      have hz := blk_drew (blk_set (blk_set (blk_set (blk_set (blk_set t1 0 (.int .i64 3)) 1 (.int .i64 (n + 1))) 2 (.int .i64 0)) 3 (.string ⟨#[]⟩)) 4 (.int .i64 iv))
      simp only [List.setIfInBounds_toArray, List.set_cons_zero, List.set_cons_succ] at hz
      refine bodyPost_ret (v := .agg #[.int .i64 3, .int .i64 (n + 1), .int .i64 0, .string ⟨#[]⟩, .int .i64 iv]) (results_cell_row rfl _ _ w.heap.size 179 _ _ _ rfl hz Try.underlying179 rfl (by kernel_rfl)) rfl ⟨by rw [hiv'.out], ?_⟩
      exact below_drew1 (below_set (below_set (below_set (below_set (below_set (below_set (below_set HB5.out hq0) hq0) hx0) hx0) hx0) hx0) hx0)
end Go.Proofs.Ytbeefbhoccdicaa.CliK
