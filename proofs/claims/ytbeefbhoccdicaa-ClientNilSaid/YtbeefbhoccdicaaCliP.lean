/- A client's first tick: walked. -/
import Derived.Test.YtbeefbhoccdicaaCliL
namespace Go.Proofs.Ytbeefbhoccdicaa.CliP
open Go.RowKit Go.Proofs.YtbeefbhoccdicaaW.PrintWords Go.Proofs.YtbeefbhoccdicaaW.PrintLast Go.Proofs.YtbeefbhoccdicaaW.PrintMore Go.Proofs.Ytbeefbhoccdicaa.QGraphReads Go.Proofs.Ytbeefbhoccdicaa.PlainV Go.Proofs.Ytbeefbhoccdicaa.WireNum Go.Proofs.Ytbeefbhoccdicaa.WireRead Go.Proofs.Ytbeefbhoccdicaa.RdSpec Go.Proofs.Ytbeefbhoccdicaa.RdC Go.Proofs.Ytbeefbhoccdicaa.CloneC Go.Proofs.Ytbeefbhoccdicaa.CliA Go.Proofs.Ytbeefbhoccdicaa.CliK Go.Proofs.Ytbeefbhoccdicaa.CliT Go.Proofs.Ytbeefbhoccdicaa.TakeA Go.Proofs.Ytbeefbhoccdicaa.TakeT Go.Proofs.Ytbeefbhoccdicaa.DecS Go.Proofs.Ytbeefbhoccdicaa.EncS Go.Proofs.Ytbeefbhoccdicaa.CliH Go.Proofs.Ytbeefbhoccdicaa.CliL
set_option linter.unusedVariables false
set_option linter.unusedSimpArgs false

def T10 : Bool × List (List Nat × List Nat) := (true, [([], []), ([0], [0]), ([1], [1]), ([2], [2]), ([3], [3]), ([], []), ([5], [5]), ([6], [6]), ([7], [7]), ([], []), ([9], [9]), ([10], [10]), ([11, 10], [11]), ([4, 8, 12], [4, 8, 12]), ([13], [13]), ([14, 12, 0, 1, 2, 3, 4, 5, 6, 7, 8, 9, 10, 11, 12, 13, 14], [14])])
def B10 : List Nat := [0, 1, 3, 7, 15, 0, 32, 96, 224, 0, 512, 1536, 3584, 8191, 16383, 32767]
theorem tab10 : rtab .any (opsOf Try.f69 10) = T10 := by kernel_rfl
theorem bits10 : waitsOk T10.2 B10 = true := by kernel_rfl
set_option maxHeartbeats 8000000 in
set_option maxRecDepth 100000 in
theorem tick_first (w : World) (g : Nat) (n ma : Int) (b cl : Nat) (h : Value) (s : ByteArray) (id : Int) (hs : s.size ≤ 140737488200000)
    (H : Cli w g n ma 0 (.slice (some ⟨b, 0, none⟩) 1 cl) 0 0 0 0 h) (hn : 0 ≤ n ∧ n ≤ 100) (hbg : b ≠ g)
    (k0 : w.cell? ⟨b, 0, none⟩ = some (.int .i64 1)) (k1 : w.cell? ⟨b, 1, none⟩ = some (.string s)) (k2 : w.cell? ⟨b, 2, none⟩ = some (.int .i64 id)) :
    Calls Try.prog 69 #[.pointer (some ⟨g, 0, none⟩)] w fun e w' => ∃ q c1 x, e = .returned (.slice (some ⟨q, 0, none⟩) 1 c1) ∧ w'.heap[q]? = some (.cells #[.int .i64 (200 + n), .int .i64 0, .string x] 134 (0, 0)) ∧ bs x = vb 10 5 ++ bA 1 (n + 1) 1 0 s ∧ Cli w' g n ma 0 (.slice (some ⟨b, 0, none⟩) 1 cl) 0 0 4 1 h ∧ KB w w' g ∧ w.heap.size ≤ q := by
  have HH := Aside0.mk H
  clear H
  go_enter Try.func69, Try.ntmps69
  go_wp2_with fail
  refine (ended_open w g n ma 0 _ cl 0 0 0 h HH.out).mono ?_
  rintro e w' ⟨rfl, m, rfl⟩
  have HC1 := Aside0.mk (show Cli (w.drewN m) g n ma 0 (.slice (some ⟨b, 0, none⟩) 1 cl) 0 0 0 0 h from HH.out)
  have HK1 := Aside0.mk ((KB.refl w g).drewN m)
  replace k0 : (w.drewN m).cell? ⟨b, 0, none⟩ = some (.int .i64 1) := k0
  replace k1 : (w.drewN m).cell? ⟨b, 1, none⟩ = some (.string s) := k1
  replace k2 : (w.drewN m).cell? ⟨b, 2, none⟩ = some (.int .i64 id) := k2
  have hw1 : (w.drewN m).heap.size = w.heap.size := rfl
  clear HH
  generalize w.drewN m = w1 at HC1 HK1 k0 k1 k2 hw1 ⊢
  have h0 := HC1.out.c0
  have h2 := HC1.out.c2
  have h6 := HC1.out.c6
  have h7 := HC1.out.c7
  have f6 := blk_frozen HC1.out 6
  have f7 := blk_frozen HC1.out 7
  go_wp2_with fail
  have HC3 := Aside0.mk (show Cli (((w1.setCell ⟨g, 6, none⟩ (.int .i64 (-1))).setCell ⟨g, 6, none⟩ (.int .i64 4)).setCell ⟨g, 7, none⟩ (.int .i64 1)).drew g n ma 0 (.slice (some ⟨b, 0, none⟩) 1 cl) 0 0 4 1 h from blk_set (blk_set (blk_set HC1.out 6 (.int .i64 (-1))) 6 (.int .i64 4)) 7 (.int .i64 1))
  have hkk : KB w1 (((w1.setCell ⟨g, 6, none⟩ (.int .i64 (-1))).setCell ⟨g, 6, none⟩ (.int .i64 4)).setCell ⟨g, 7, none⟩ (.int .i64 1)).drew g := ((((KB.refl w1 g).set_ 6 (.int .i64 (-1))).set_ 6 (.int .i64 4)).set_ 7 (.int .i64 1)).drew
  have HK3 := Aside0.mk (HK1.out.trans hkk)
  have hkb := hkk.blk b (World.block_lt_of_cell? _ _ k0) hbg
  have j0 : (((w1.setCell ⟨g, 6, none⟩ (.int .i64 (-1))).setCell ⟨g, 6, none⟩ (.int .i64 4)).setCell ⟨g, 7, none⟩ (.int .i64 1)).drew.cell? ⟨b, 0, none⟩ = some (.int .i64 1) := (World.cell?_of_block hkb).trans k0
  have j1 : (((w1.setCell ⟨g, 6, none⟩ (.int .i64 (-1))).setCell ⟨g, 6, none⟩ (.int .i64 4)).setCell ⟨g, 7, none⟩ (.int .i64 1)).drew.cell? ⟨b, 1, none⟩ = some (.string s) := (World.cell?_of_block hkb).trans k1
  have j2 : (((w1.setCell ⟨g, 6, none⟩ (.int .i64 (-1))).setCell ⟨g, 6, none⟩ (.int .i64 4)).setCell ⟨g, 7, none⟩ (.int .i64 1)).drew.cell? ⟨b, 2, none⟩ = some (.int .i64 id) := (World.cell?_of_block hkb).trans k2
  clear hkb hkk k0 k1 k2 h0 h2 h6 h7 f6 f7 HC1 HK1
  refine start_ (n := 16) (S := fun w' => w'.cell? ⟨g, 0, none⟩ = some (.int .i64 n) ∧ w'.cell? ⟨g, 2, none⟩ = some (.int .i64 0)) (ds := []) #[false, false, false, false, false, false, false, false, false, false, false, false, false, false, false, false] (by kernel_rfl) rfl rfl (⟨HC3.out.c0, HC3.out.c2⟩) (fun hHeld => ?_)
  refine with_tabW tab10 bits10 (fun HT_ HW_ => ?_)
  generalize (((w1.setCell ⟨g, 6, none⟩ (.int .i64 (-1))).setCell ⟨g, 6, none⟩ (.int .i64 4)).setCell ⟨g, 7, none⟩ (.int .i64 1)).drew = w3 at HC3 HK3 j0 j1 j2 hHeld ⊢
  refine pure_ (i := 0) (N := some 48) (v := ?_) (a' := ?_) #[true, false, false, false, false, false, false, false, false, false, false, false, false, false, false, false] rfl rfl (any_of HT_.out (by kernel_rfl)) (fun _ _ _ h => h) (Or.inl ⟨by rfl, ?_⟩) ?_ ?_
  rotate_left
  · intro w'
    go_simp
    with_reducible rfl
  rotate_left
  · simp only [Act.put, List.setIfInBounds_toArray, List.set_cons_zero, List.set_cons_succ, i64_w, i32_w]
    rfl
  refine pure_ (i := 1) (N := some 49) (v := ?_) (a' := ?_) #[true, true, false, false, false, false, false, false, false, false, false, false, false, false, false, false] rfl rfl (any_of HT_.out (by kernel_rfl)) (fun _ _ _ h => h) (Or.inl ⟨by rfl, ?_⟩) ?_ ?_
  rotate_left
  · intro w'
    go_simp
    with_reducible rfl
  rotate_left
  · simp only [Act.put, List.setIfInBounds_toArray, List.set_cons_zero, List.set_cons_succ, i64_w, i32_w]
    rfl
  refine pure_ (i := 2) (N := some 50) (v := ?_) (a' := ?_) #[true, true, true, false, false, false, false, false, false, false, false, false, false, false, false, false] rfl rfl (any_of HT_.out (by kernel_rfl)) (fun _ _ _ h => h) (Or.inl ⟨by rfl, ?_⟩) ?_ ?_
  rotate_left
  · intro w'
    go_simp
    with_reducible rfl
  rotate_left
  · simp only [Act.put, List.setIfInBounds_toArray, List.set_cons_zero, List.set_cons_succ, i64_w, i32_w]
    rfl
  refine take_ (i := 3) (N := some 51) (v := ?_) (a' := ?_) #[true, true, true, true, false, false, false, false, false, false, false, false, false, false, false, false] rfl rfl (take_ofW HT_.out HW_.out (by kernel_rfl)) (fun _ _ _ h => h) (Or.inl ⟨by rfl, ?_⟩) hHeld ?_ ?_
  rotate_left
  · intro w' s0
    go_simp
    with_reducible rfl
  rotate_left
  · simp only [Act.put, List.setIfInBounds_toArray, List.set_cons_zero, List.set_cons_succ, i64_w, i32_w]
    rfl
  refine pure_ (i := 4) (N := some 52) (v := ?_) (a' := ?_) #[true, true, true, true, true, false, false, false, false, false, false, false, false, false, false, false] rfl rfl (any_of HT_.out (by kernel_rfl)) (fun _ _ _ h => h) (Or.inl ⟨by rfl, ?_⟩) ?_ ?_
  rotate_left
  · intro w'
    go_simp
    with_reducible rfl
  rotate_left
  · simp only [Act.put, List.setIfInBounds_toArray, List.set_cons_zero, List.set_cons_succ, i64_w, i32_w]
    rfl
  have wn : wrap64 (200 + n) = 200 + n := by unfold wrap64; omega
  rw [wn]
  refine pure_ (i := 5) (N := some 53) (v := ?_) (a' := ?_) #[true, true, true, true, true, true, false, false, false, false, false, false, false, false, false, false] rfl rfl (any_of HT_.out (by kernel_rfl)) (fun _ _ _ h => h) (Or.inl ⟨by rfl, ?_⟩) ?_ ?_
  rotate_left
  · intro w'
    go_simp
    with_reducible rfl
  rotate_left
  · simp only [Act.put, List.setIfInBounds_toArray, List.set_cons_zero, List.set_cons_succ, i64_w, i32_w]
    rfl
  refine pure_ (i := 6) (N := some 54) (v := ?_) (a' := ?_) #[true, true, true, true, true, true, true, false, false, false, false, false, false, false, false, false] rfl rfl (any_of HT_.out (by kernel_rfl)) (fun _ _ _ h => h) (Or.inl ⟨by rfl, ?_⟩) ?_ ?_
  rotate_left
  · intro w'
    go_simp
    with_reducible rfl
  rotate_left
  · simp only [Act.put, List.setIfInBounds_toArray, List.set_cons_zero, List.set_cons_succ, i64_w, i32_w]
    rfl
  refine pure_ (i := 7) (N := some 55) (v := ?_) (a' := ?_) #[true, true, true, true, true, true, true, true, false, false, false, false, false, false, false, false] rfl rfl (any_of HT_.out (by kernel_rfl)) (fun _ _ _ h => h) (Or.inl ⟨by rfl, ?_⟩) ?_ ?_
  rotate_left
  · intro w'
    go_simp
    with_reducible rfl
  rotate_left
  · simp only [Act.put, List.setIfInBounds_toArray, List.set_cons_zero, List.set_cons_succ, i64_w, i32_w]
    rfl
  refine take_ (i := 8) (N := some 56) (v := ?_) (a' := ?_) #[true, true, true, true, true, true, true, true, true, false, false, false, false, false, false, false] rfl rfl (take_ofW HT_.out HW_.out (by kernel_rfl)) (fun _ _ _ h => h) (Or.inl ⟨by rfl, ?_⟩) hHeld ?_ ?_
  rotate_left
  · intro w' s0
    go_simp
    with_reducible rfl
  rotate_left
  · simp only [Act.put, List.setIfInBounds_toArray, List.set_cons_zero, List.set_cons_succ, i64_w, i32_w]
    rfl
  refine pure_ (i := 9) (N := some 57) (v := ?_) (a' := ?_) #[true, true, true, true, true, true, true, true, true, true, false, false, false, false, false, false] rfl rfl (any_of HT_.out (by kernel_rfl)) (fun _ _ _ h => h) (Or.inl ⟨by rfl, ?_⟩) ?_ ?_
  rotate_left
  · intro w'
    go_simp
    with_reducible rfl
  rotate_left
  · simp only [Act.put, List.setIfInBounds_toArray, List.set_cons_zero, List.set_cons_succ, i64_w, i32_w]
    rfl
  refine one_ (i := 10) (N := some 58) #[true, true, true, true, true, true, true, true, true, true, true, false, false, false, false, false] rfl rfl (one_of HT_.out (by kernel_rfl)) (by decide) (fun K hK => ?_)
  refine goes_ Try.func108 (by kernel_rfl) rfl #[.pointer (some ⟨g, 0, none⟩)] (by rfl) rfl rfl (by simp; rfl) ?_
  refine (ask_submit w3 g n ma 0 b cl 0 4 1 h s id HC3.out hn (by omega) j0 j1 j2).mono ?_
  rintro e w4 ⟨rfl, hb4⟩
  have HC4 := Aside0.mk (show Cli w4 g n ma 0 (.slice (some ⟨b, 0, none⟩) 1 cl) 0 0 4 1 h from blk_below HC3.out hb4)
  have HK4 := Aside0.mk (HK3.out.trans (KB.of_below hb4 g))
  clear hb4 HC3 HK3 j0 j1 j2
  refine ⟨_, rfl, ?_⟩
  refine hK.out _ _ (⟨HC4.out.c0, HC4.out.c2⟩) (fun hHeld => ?_)
  clear hK K
  refine norm_ (a' := ?_) ?_ ?_
  rotate_left
  · show Act.put _ (some 58) _ = _
    simp only [Act.put, List.setIfInBounds_toArray, List.set_cons_zero, List.set_cons_succ, i64_w, i32_w]
    rfl
  refine pure_ (i := 11) (N := some 59) (v := ?_) (a' := ?_) #[true, true, true, true, true, true, true, true, true, true, true, true, false, false, false, false] rfl rfl (any_of HT_.out (by kernel_rfl)) (fun _ _ _ h => h) (Or.inl ⟨by rfl, ?_⟩) ?_ ?_
  rotate_left
  · intro w'
    go_simp
    with_reducible rfl
  rotate_left
  · simp only [Act.put, List.setIfInBounds_toArray, List.set_cons_zero, List.set_cons_succ, i64_w, i32_w]
    rfl
  have hcs : (putL (z5 5) 62 (askC 1 (n + 1) 1 0 s).toList).size = 86 := by rw [putL_size, z5_size]
  have hc0 : (putL (z5 5) 62 (askC 1 (n + 1) 1 0 s).toList)[0]? = some (.int .i64 5) := by rw [putL_out _ _ _ _ (Or.inl (by decide)), z5_zero]
  have hcA : ∀ (j : Nat) v, (askC 1 (n + 1) 1 0 s).toList[j]? = some v → (putL (z5 5) 62 (askC 1 (n + 1) 1 0 s).toList)[62 + j]? = some v := fun j v hj => putL_in _ _ _ _ _ (by rw [z5_size]; exact (by decide : 62 + 5 ≤ 86)) hj
  refine one_ (i := 12) (N := some 60) #[true, true, true, true, true, true, true, true, true, true, true, true, true, false, false, false] rfl rfl (one_of HT_.out (by kernel_rfl)) (by decide) (fun K hK => ?_)
  refine goes_ Try.func103 (by kernel_rfl) rfl #[.agg (putL (z5 5) 62 (askC 1 (n + 1) 1 0 s).toList)] (by rfl) rfl rfl (by simp; rfl) ?_
  refine (encAsk_calls w4 _ 1 (n + 1) 1 0 s hcs hc0 hcA (by decide) (by unfold In; omega) (by decide) (by decide) hs).mono ?_
  rintro e w5 ⟨x, rfl, hx, hb5⟩
  have HC5 := Aside0.mk (show Cli w5 g n ma 0 (.slice (some ⟨b, 0, none⟩) 1 cl) 0 0 4 1 h from blk_below HC4.out hb5)
  have HK5 := Aside0.mk (HK4.out.trans (KB.of_below hb5 g))
  have HX := Aside0.mk hx
  clear hb5 HC4 HK4 hx hcs hc0 hcA
  refine ⟨_, rfl, ?_⟩
  refine hK.out _ _ (⟨HC5.out.c0, HC5.out.c2⟩) (fun hHeld => ?_)
  clear hK K
  refine norm_ (a' := ?_) ?_ ?_
  rotate_left
  · show Act.put _ (some 60) _ = _
    simp only [Act.put, List.setIfInBounds_toArray, List.set_cons_zero, List.set_cons_succ, i64_w, i32_w]
    rfl
  refine pure_ (i := 13) (N := some 61) (v := ?_) (a' := ?_) #[true, true, true, true, true, true, true, true, true, true, true, true, true, true, false, false] rfl rfl (any_of HT_.out (by kernel_rfl)) (fun _ _ _ h => h) (Or.inl ⟨by rfl, ?_⟩) ?_ ?_
  rotate_left
  · intro w'
    go_simp
    with_reducible rfl
  rotate_left
  · simp only [Act.put, List.setIfInBounds_toArray, List.set_cons_zero, List.set_cons_succ, i64_w, i32_w]
    rfl
  refine one_ (i := 14) (N := some 62) #[true, true, true, true, true, true, true, true, true, true, true, true, true, true, true, false] rfl rfl (one_of HT_.out (by kernel_rfl)) (by decide) (fun K hK => ?_)
  refine value_ (w1 := ?_) (v := ?_) (by rfl) rfl ?_ ?_
  rotate_left 2
  · go_simp
    constructor
    · rfl
    · rfl
  have HC6 := Aside0.mk (show Cli (w5.alloc (.cells #[.int .i64 (200 + n), .int .i64 0, .string x] 134)) g n ma 0 (.slice (some ⟨b, 0, none⟩) 1 cl) 0 0 4 1 h from blk_alloc HC5.out _)
  have HK6 := Aside0.mk (kb_alloc HK5.out (.cells #[.int .i64 (200 + n), .int .i64 0, .string x] 134))
  have HG6 := Aside0.mk (blk_new w5 (.cells #[.int .i64 (200 + n), .int .i64 0, .string x] 134))
  have hq6 : w.heap.size ≤ w5.heap.size := HK5.out.size
  clear HC5 HK5
  refine hK.out _ _ (⟨HC6.out.c0, HC6.out.c2⟩) (fun hHeld => ?_)
  clear hK K
  refine norm_ (a' := ?_) ?_ ?_
  rotate_left
  · show Act.put _ (some 62) _ = _
    simp only [Act.put, List.setIfInBounds_toArray, List.set_cons_zero, List.set_cons_succ, i64_w, i32_w]
    rfl
  obtain ⟨q, hq⟩ : ∃ q, w5.heap.size = q := ⟨_, rfl⟩
  rw [hq] at HG6 hq6 ⊢
  clear hq
  generalize w5.alloc (.cells #[.int .i64 (200 + n), .int .i64 0, .string x] 134) = w6 at HC6 HK6 HG6 hHeld ⊢
  refine pure_ (i := 15) (N := some 2) (v := ?_) (a' := ?_) #[true, true, true, true, true, true, true, true, true, true, true, true, true, true, true, true] rfl rfl (any_of HT_.out (by kernel_rfl)) (fun _ _ _ h => h) (Or.inl ⟨by rfl, ?_⟩) ?_ ?_
  rotate_left
  · intro w'
    go_simp
    with_reducible rfl
  rotate_left
  · simp only [Act.put, List.setIfInBounds_toArray, List.set_cons_zero, List.set_cons_succ, i64_w, i32_w]
    rfl
  refine done_ (done_of HT_.out (by kernel_rfl)) ?_
  go_wp2_with fail
  go_ret
  exact ⟨q, _, x, rfl, HG6.out, HX.out, HC6.out, HK6.out, hq6⟩
end Go.Proofs.Ytbeefbhoccdicaa.CliP
