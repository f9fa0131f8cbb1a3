/- What a vertex does, held against the document's: of a program that is none both say the same. -/
import Derived.Test.YtbeefbhoccdicaaKernS
import Derived.Test.YtbeefbhoccdicaaTellLaw
import Derived.Test.YtbeefbhoccdicaaEqT
namespace Go.Proofs.Ytbeefbhoccdicaa.IsK
open Go.RowKit Go.Shelf Go.Proofs.YtbeefbhoccdicaaW.PrintWords Go.Proofs.YtbeefbhoccdicaaW.PrintLast Go.Proofs.YtbeefbhoccdicaaW.PrintMore Go.Proofs.Ytbeefbhoccdicaa.QGraphReads Go.Proofs.Ytbeefbhoccdicaa.KernM Go.Proofs.Ytbeefbhoccdicaa.TellLaw
set_option linter.unusedVariables false
set_option linter.unusedSimpArgs false

theorem range_left {w : World} {b t : Nat} {cs ds : List Value} (h : w.heap[b]? = some (.cells (cs ++ ds).toArray t (0, 0))) : w.rangeAt b 0 cs := by
  intro j v hj
  refine range_of h j v ?_
  rw [List.getElem?_append_left (List.getElem?_eq_some_iff.1 hj).1]
  exact hj
theorem range_right {w : World} {b t : Nat} {cs ds : List Value} (h : w.heap[b]? = some (.cells (cs ++ ds).toArray t (0, 0))) : w.rangeAt b cs.length ds := by
  intro j v hj
  have h2 := range_of h (cs.length + j) v (by rw [List.getElem?_append_right (by omega)]; rw [show cs.length + j - cs.length = j by omega]; exact hj)
  rw [Nat.zero_add] at h2
  exact h2

def T1 : Bool × List (List Nat × List Nat) := (true, [([], []), ([0], [0]), ([], []), ([2], [2]), ([], []), ([], []), ([4, 1, 0, 1, 4, 5], [1, 4]), ([5, 3, 6, 0, 1, 2, 3, 4, 5, 6], [3, 5])])
def B1 : List Nat := [0, 1, 0, 4, 0, 0, 51, 127]
theorem tab1 : rtab .any (opsOf Try.f50 1) = T1 := by kernel_rfl
theorem bits1 : waitsOk T1.2 B1 = true := by kernel_rfl

set_option maxHeartbeats 4000000 in
set_option maxRecDepth 100000 in
theorem is_calls (w : World) :
    Calls Try.prog 50 #[.agg #[.int .i64 0, .bool false, .slice none 0 0, .slice none 0 0, .bool false, .bool false, .bool false, .bool false, .bool false, .int .i64 0, .int .i64 0, .int .i64 0, .int .i64 0, .int .i64 0, .int .i64 70, .int .i64 0, .bool false, .slice none 0 0, .slice none 0 0, .bool false, .bool false, .bool false, .bool false, .bool false, .int .i64 0, .int .i64 0, .int .i64 0, .int .i64 0, .int .i64 0, .int .i64 70]] w fun e w' => e = .returned (.bool true) ∧ Below w.heap.size w w' := by
  have HX := Aside0.mk (blk_drew (blk_new w (.cells #[.int .i64 0, .bool false, .slice none 0 0, .slice none 0 0, .bool false, .bool false, .bool false, .bool false, .bool false, .int .i64 0, .int .i64 0, .int .i64 0, .int .i64 0, .int .i64 0, .int .i64 70, .int .i64 0, .bool false, .slice none 0 0, .slice none 0 0, .bool false, .bool false, .bool false, .bool false, .bool false, .int .i64 0, .int .i64 0, .int .i64 0, .int .i64 0, .int .i64 0, .int .i64 70] 102)))
  have HB := Aside0.mk (below_drew1 (below_alloc (Below.refl w.heap.size w) (.cells #[.int .i64 0, .bool false, .slice none 0 0, .slice none 0 0, .bool false, .bool false, .bool false, .bool false, .bool false, .int .i64 0, .int .i64 0, .int .i64 0, .int .i64 0, .int .i64 0, .int .i64 70, .int .i64 0, .bool false, .slice none 0 0, .slice none 0 0, .bool false, .bool false, .bool false, .bool false, .bool false, .int .i64 0, .int .i64 0, .int .i64 0, .int .i64 0, .int .i64 0, .int .i64 70] 102)))
  go_enter Try.func50, Try.ntmps50
  go_wp2_with fail
  generalize w.alloc (.cells #[.int .i64 0, .bool false, .slice none 0 0, .slice none 0 0, .bool false, .bool false, .bool false, .bool false, .bool false, .int .i64 0, .int .i64 0, .int .i64 0, .int .i64 0, .int .i64 0, .int .i64 70, .int .i64 0, .bool false, .slice none 0 0, .slice none 0 0, .bool false, .bool false, .bool false, .bool false, .bool false, .int .i64 0, .int .i64 0, .int .i64 0, .int .i64 0, .int .i64 0, .int .i64 70] 102) = w1 at HX HB ⊢
  refine start_ (n := 8) (S := fun w' => w'.heap[w.heap.size]? = some (.cells #[.int .i64 0, .bool false, .slice none 0 0, .slice none 0 0, .bool false, .bool false, .bool false, .bool false, .bool false, .int .i64 0, .int .i64 0, .int .i64 0, .int .i64 0, .int .i64 0, .int .i64 70, .int .i64 0, .bool false, .slice none 0 0, .slice none 0 0, .bool false, .bool false, .bool false, .bool false, .bool false, .int .i64 0, .int .i64 0, .int .i64 0, .int .i64 0, .int .i64 0, .int .i64 70] 102 (0, 0))) (ds := []) #[false, false, false, false, false, false, false, false] (by kernel_rfl) rfl rfl (HX.out) (fun hHeld => ?_)
  refine with_tabW tab1 bits1 (fun HT_ HW_ => ?_)
  generalize w1.drew = w2 at HX HB hHeld ⊢
  refine pure_ (i := 0) (N := some 9) (v := ?_) (a' := ?_) #[true, false, false, false, false, false, false, false] rfl rfl (any_of HT_.out (by kernel_rfl)) (fun _ _ _ h => h) (Or.inl ⟨by rfl, ?_⟩) ?_ ?_
  rotate_left
  · intro w'
    go_simp
    with_reducible rfl
  rotate_left
  · simp only [Act.put, List.setIfInBounds_toArray, List.set_cons_zero, List.set_cons_succ, i64_w, i32_w]
    rfl
  refine take_ (i := 1) (N := some 10) (v := .agg #[.int .i64 0, .bool false, .slice none 0 0, .slice none 0 0, .bool false, .bool false, .bool false, .bool false, .bool false, .int .i64 0, .int .i64 0, .int .i64 0, .int .i64 0, .int .i64 0, .int .i64 70]) (a' := ?_) #[true, true, false, false, false, false, false, false] rfl rfl (take_ofW HT_.out HW_.out (by kernel_rfl)) (fun _ _ _ h => h) (yieldsIf_load_mid (by rfl) 93 (.tmp 9) rfl w.heap.size 0 rfl [.int .i64 0, .bool false, .slice none 0 0, .slice none 0 0, .bool false, .bool false, .bool false, .bool false, .bool false, .int .i64 0, .int .i64 0, .int .i64 0, .int .i64 0, .int .i64 0, .int .i64 70] _ (fun w' h => range_left (cs := [.int .i64 0, .bool false, .slice none 0 0, .slice none 0 0, .bool false, .bool false, .bool false, .bool false, .bool false, .int .i64 0, .int .i64 0, .int .i64 0, .int .i64 0, .int .i64 0, .int .i64 70]) (ds := [.int .i64 0, .bool false, .slice none 0 0, .slice none 0 0, .bool false, .bool false, .bool false, .bool false, .bool false, .int .i64 0, .int .i64 0, .int .i64 0, .int .i64 0, .int .i64 0, .int .i64 70]) h) Try.underlying93 rfl (by kernel_rfl)) hHeld ?_ ?_
  rotate_left
  · simp only [Act.put, List.setIfInBounds_toArray, List.set_cons_zero, List.set_cons_succ, i64_w, i32_w]
    rfl
  refine pure_ (i := 2) (N := some 11) (v := ?_) (a' := ?_) #[true, true, true, false, false, false, false, false] rfl rfl (any_of HT_.out (by kernel_rfl)) (fun _ _ _ h => h) (Or.inl ⟨by rfl, ?_⟩) ?_ ?_
  rotate_left
  · intro w'
    go_simp
    with_reducible rfl
  rotate_left
  · simp only [Act.put, List.setIfInBounds_toArray, List.set_cons_zero, List.set_cons_succ, i64_w, i32_w]
    rfl
  refine take_ (i := 3) (N := some 12) (v := .agg #[.int .i64 0, .bool false, .slice none 0 0, .slice none 0 0, .bool false, .bool false, .bool false, .bool false, .bool false, .int .i64 0, .int .i64 0, .int .i64 0, .int .i64 0, .int .i64 0, .int .i64 70]) (a' := ?_) #[true, true, true, true, false, false, false, false] rfl rfl (take_ofW HT_.out HW_.out (by kernel_rfl)) (fun _ _ _ h => h) (yieldsIf_load_mid (by rfl) 100 (.tmp 11) rfl w.heap.size 15 rfl [.int .i64 0, .bool false, .slice none 0 0, .slice none 0 0, .bool false, .bool false, .bool false, .bool false, .bool false, .int .i64 0, .int .i64 0, .int .i64 0, .int .i64 0, .int .i64 0, .int .i64 70] _ (fun w' h => range_right (cs := [.int .i64 0, .bool false, .slice none 0 0, .slice none 0 0, .bool false, .bool false, .bool false, .bool false, .bool false, .int .i64 0, .int .i64 0, .int .i64 0, .int .i64 0, .int .i64 0, .int .i64 70]) (ds := [.int .i64 0, .bool false, .slice none 0 0, .slice none 0 0, .bool false, .bool false, .bool false, .bool false, .bool false, .int .i64 0, .int .i64 0, .int .i64 0, .int .i64 0, .int .i64 0, .int .i64 70]) h) Try.underlying100 rfl (by kernel_rfl)) hHeld ?_ ?_
  rotate_left
  · simp only [Act.put, List.setIfInBounds_toArray, List.set_cons_zero, List.set_cons_succ, i64_w, i32_w]
    rfl
  refine join_ (σ := Nat × Nat) 2 #[true, true, true, true, true, true, false, false] (fun s => [(3, .pointer (some ⟨s.1, 0, none⟩)), (4, .pointer (some ⟨s.2, 0, none⟩))]) (fun s w' => w.heap.size < s.1 ∧ w.heap.size < s.2 ∧ s.1 ≠ s.2 ∧ w'.heap[s.1]? = some (.cells #[.int .i64 0, .bool false, .slice none 0 0, .slice none 0 0, .bool false, .bool false, .bool false, .bool false, .bool false, .int .i64 0, .int .i64 0, .int .i64 0, .int .i64 0, .int .i64 0, .int .i64 0] 93 (0, 0)) ∧ w'.heap[s.2]? = some (.cells #[.int .i64 0, .bool false, .slice none 0 0, .slice none 0 0, .bool false, .bool false, .bool false, .bool false, .bool false, .int .i64 0, .int .i64 0, .int .i64 0, .int .i64 0, .int .i64 0, .int .i64 0] 100 (0, 0)) ∧ w'.heap[w.heap.size]? = some (.cells #[.int .i64 0, .bool false, .slice none 0 0, .slice none 0 0, .bool false, .bool false, .bool false, .bool false, .bool false, .int .i64 0, .int .i64 0, .int .i64 0, .int .i64 0, .int .i64 0, .int .i64 70, .int .i64 0, .bool false, .slice none 0 0, .slice none 0 0, .bool false, .bool false, .bool false, .bool false, .bool false, .int .i64 0, .int .i64 0, .int .i64 0, .int .i64 0, .int .i64 0, .int .i64 70] 102 (0, 0)) ∧ Below w.heap.size w w') ?_ ?_
  rotate_left
  · intro hCont
    refine two_ (i := 4) (j := 5) (Ni := some 3) (Nj := some 4) #[true, true, true, true, true, false, false, false] #[true, true, true, true, false, true, false, false] rfl rfl rfl rfl (two_of HT_.out (by kernel_rfl)) (by decide) (by decide) (fun K hK => ?_) (fun K hK => ?_)
    · skip
      refine box_step (N := 3) (by rfl) rfl (cs := #[.int .i64 0, .bool false, .slice none 0 0, .slice none 0 0, .bool false, .bool false, .bool false, .bool false, .bool false, .int .i64 0, .int .i64 0, .int .i64 0, .int .i64 0, .int .i64 0, .int .i64 0]) (t := 93) (by go_simp; first | done | rfl) ?_
      intro ga hgga wa hbxga hbga
      have HXa : wa.heap[w.heap.size]? = some (.cells #[.int .i64 0, .bool false, .slice none 0 0, .slice none 0 0, .bool false, .bool false, .bool false, .bool false, .bool false, .int .i64 0, .int .i64 0, .int .i64 0, .int .i64 0, .int .i64 0, .int .i64 70, .int .i64 0, .bool false, .slice none 0 0, .slice none 0 0, .bool false, .bool false, .bool false, .bool false, .bool false, .int .i64 0, .int .i64 0, .int .i64 0, .int .i64 0, .int .i64 0, .int .i64 70] 102 (0, 0)) := blk_below HX.out hbga
      refine hK.out _ _ HXa (fun hHeld => ?_)
      clear hK K
      refine norm_ (a' := ?_) ?_ ?_
      rotate_left
      · show Act.put _ (some 3) _ = _
        simp only [Act.put, List.setIfInBounds_toArray, List.set_cons_zero, List.set_cons_succ, i64_w, i32_w]
        rfl
      refine one_ (i := 5) (N := some 4) #[true, true, true, true, true, true, false, false] rfl rfl (one_of HT_.out (by kernel_rfl)) (by decide) (fun K hK => ?_)
      refine box_step (N := 4) (by rfl) rfl (cs := #[.int .i64 0, .bool false, .slice none 0 0, .slice none 0 0, .bool false, .bool false, .bool false, .bool false, .bool false, .int .i64 0, .int .i64 0, .int .i64 0, .int .i64 0, .int .i64 0, .int .i64 0]) (t := 100) (by go_simp; first | done | rfl) ?_
      intro gb hggb wb hbxgb hbgb
      have HXb : wb.heap[w.heap.size]? = some (.cells #[.int .i64 0, .bool false, .slice none 0 0, .slice none 0 0, .bool false, .bool false, .bool false, .bool false, .bool false, .int .i64 0, .int .i64 0, .int .i64 0, .int .i64 0, .int .i64 0, .int .i64 70, .int .i64 0, .bool false, .slice none 0 0, .slice none 0 0, .bool false, .bool false, .bool false, .bool false, .bool false, .int .i64 0, .int .i64 0, .int .i64 0, .int .i64 0, .int .i64 0, .int .i64 70] 102 (0, 0)) := blk_below HXa hbgb
      refine hK.out _ _ HXb (fun hHeld => ?_)
      clear hK K
      have l1 := HB.out.size
      have l2 := hbga.size
      have l3 := blk_lt HX.out
      have l4 := blk_lt hbxga
      refine norm_ (by rfl) (hCont (ga, gb) _ ⟨by show w.heap.size < _; omega, by show w.heap.size < _; omega, by show _ ≠ _; omega, blk_below hbxga hbgb, hbxgb, HXb, below_then (below_then HB.out l1 hbga) (by omega) hbgb⟩)
    · skip
      refine box_step (N := 4) (by rfl) rfl (cs := #[.int .i64 0, .bool false, .slice none 0 0, .slice none 0 0, .bool false, .bool false, .bool false, .bool false, .bool false, .int .i64 0, .int .i64 0, .int .i64 0, .int .i64 0, .int .i64 0, .int .i64 0]) (t := 100) (by go_simp; first | done | rfl) ?_
      intro ga hgga wa hbxga hbga
      have HXa : wa.heap[w.heap.size]? = some (.cells #[.int .i64 0, .bool false, .slice none 0 0, .slice none 0 0, .bool false, .bool false, .bool false, .bool false, .bool false, .int .i64 0, .int .i64 0, .int .i64 0, .int .i64 0, .int .i64 0, .int .i64 70, .int .i64 0, .bool false, .slice none 0 0, .slice none 0 0, .bool false, .bool false, .bool false, .bool false, .bool false, .int .i64 0, .int .i64 0, .int .i64 0, .int .i64 0, .int .i64 0, .int .i64 70] 102 (0, 0)) := blk_below HX.out hbga
      refine hK.out _ _ HXa (fun hHeld => ?_)
      clear hK K
      refine norm_ (a' := ?_) ?_ ?_
      rotate_left
      · show Act.put _ (some 4) _ = _
        simp only [Act.put, List.setIfInBounds_toArray, List.set_cons_zero, List.set_cons_succ, i64_w, i32_w]
        rfl
      refine one_ (i := 4) (N := some 3) #[true, true, true, true, true, true, false, false] rfl rfl (one_of HT_.out (by kernel_rfl)) (by decide) (fun K hK => ?_)
      refine box_step (N := 3) (by rfl) rfl (cs := #[.int .i64 0, .bool false, .slice none 0 0, .slice none 0 0, .bool false, .bool false, .bool false, .bool false, .bool false, .int .i64 0, .int .i64 0, .int .i64 0, .int .i64 0, .int .i64 0, .int .i64 0]) (t := 93) (by go_simp; first | done | rfl) ?_
      intro gb hggb wb hbxgb hbgb
      have HXb : wb.heap[w.heap.size]? = some (.cells #[.int .i64 0, .bool false, .slice none 0 0, .slice none 0 0, .bool false, .bool false, .bool false, .bool false, .bool false, .int .i64 0, .int .i64 0, .int .i64 0, .int .i64 0, .int .i64 0, .int .i64 70, .int .i64 0, .bool false, .slice none 0 0, .slice none 0 0, .bool false, .bool false, .bool false, .bool false, .bool false, .int .i64 0, .int .i64 0, .int .i64 0, .int .i64 0, .int .i64 0, .int .i64 70] 102 (0, 0)) := blk_below HXa hbgb
      refine hK.out _ _ HXb (fun hHeld => ?_)
      clear hK K
      have l1 := HB.out.size
      have l2 := hbga.size
      have l3 := blk_lt HX.out
      have l4 := blk_lt hbxga
      refine norm_ (by rfl) (hCont (gb, ga) _ ⟨by show w.heap.size < _; omega, by show w.heap.size < _; omega, by show _ ≠ _; omega, hbxgb, blk_below hbxga hbgb, HXb, below_then (below_then HB.out l1 hbga) (by omega) hbgb⟩)
  · rintro ⟨g3, g4⟩ w3 ⟨q3, q4, q34, HX3, HX4, HXb, HB3⟩
    simp only at q3 q4 q34 HX3 HX4
    refine norm_ (a' := ?_) ?_ ?_
    rotate_left
    · simp only [putAll, Act.put, List.setIfInBounds_toArray, List.set_cons_zero, List.set_cons_succ, i64_w, i32_w]
      rfl
    refine one_ (i := 6) (N := none) #[true, true, true, true, true, true, true, false] rfl rfl (one_of HT_.out (by kernel_rfl)) (by decide) (fun K hK => ?_)
    rw [if_pos (show Region.wanted _ _ = true from rfl)]
    refine wp_store_row 93 (.tmp 3) (.tmp 10) rfl g3 _ rfl rfl 93 _ HX3 (by kernel_rfl) rfl (by simp [Value.oneCell']) ?_
    have HX3' := setRow_heap w3 g3 _ #[.int .i64 0, .bool false, .slice none 0 0, .slice none 0 0, .bool false, .bool false, .bool false, .bool false, .bool false, .int .i64 0, .int .i64 0, .int .i64 0, .int .i64 0, .int .i64 0, .int .i64 70] 93 (0, 0) HX3
    have HX4' := (setRow_other w3 g3 g4 #[.int .i64 0, .bool false, .slice none 0 0, .slice none 0 0, .bool false, .bool false, .bool false, .bool false, .bool false, .int .i64 0, .int .i64 0, .int .i64 0, .int .i64 0, .int .i64 0, .int .i64 70] (fun h => q34 h.symm)).trans HX4
    have HXb' := (setRow_other w3 g3 w.heap.size #[.int .i64 0, .bool false, .slice none 0 0, .slice none 0 0, .bool false, .bool false, .bool false, .bool false, .bool false, .int .i64 0, .int .i64 0, .int .i64 0, .int .i64 0, .int .i64 0, .int .i64 70] (by omega)).trans HXb
    have HB3' := below_setRow HB3 (Nat.le_of_lt q3) #[.int .i64 0, .bool false, .slice none 0 0, .slice none 0 0, .bool false, .bool false, .bool false, .bool false, .bool false, .int .i64 0, .int .i64 0, .int .i64 0, .int .i64 0, .int .i64 0, .int .i64 70]
    refine hK.out _ _ HXb' (fun hHeld => ?_)
    clear hK K
    refine norm_ (a' := ?_) ?_ ?_
    rotate_left
    · show Act.put _ none _ = _
      simp only [Act.put]
      rfl
    generalize w3.setRow g3 #[.int .i64 0, .bool false, .slice none 0 0, .slice none 0 0, .bool false, .bool false, .bool false, .bool false, .bool false, .int .i64 0, .int .i64 0, .int .i64 0, .int .i64 0, .int .i64 0, .int .i64 70] = w4 at HX3' HX4' HXb' HB3' hHeld ⊢
    refine one_ (i := 7) (N := none) #[true, true, true, true, true, true, true, true] rfl rfl (one_of HT_.out (by kernel_rfl)) (by decide) (fun K hK => ?_)
    rw [if_pos (show Region.wanted _ _ = true from rfl)]
    refine wp_store_row 100 (.tmp 4) (.tmp 12) rfl g4 _ rfl rfl 100 _ HX4' (by kernel_rfl) rfl (by simp [Value.oneCell']) ?_
    have HX3'' := (setRow_other w4 g4 g3 #[.int .i64 0, .bool false, .slice none 0 0, .slice none 0 0, .bool false, .bool false, .bool false, .bool false, .bool false, .int .i64 0, .int .i64 0, .int .i64 0, .int .i64 0, .int .i64 0, .int .i64 70] q34).trans HX3'
    have HX4'' := setRow_heap w4 g4 _ #[.int .i64 0, .bool false, .slice none 0 0, .slice none 0 0, .bool false, .bool false, .bool false, .bool false, .bool false, .int .i64 0, .int .i64 0, .int .i64 0, .int .i64 0, .int .i64 0, .int .i64 70] 100 (0, 0) HX4'
    have HXb'' := (setRow_other w4 g4 w.heap.size #[.int .i64 0, .bool false, .slice none 0 0, .slice none 0 0, .bool false, .bool false, .bool false, .bool false, .bool false, .int .i64 0, .int .i64 0, .int .i64 0, .int .i64 0, .int .i64 0, .int .i64 70] (by omega)).trans HXb'
    have HB4 := below_setRow HB3' (Nat.le_of_lt q4) #[.int .i64 0, .bool false, .slice none 0 0, .slice none 0 0, .bool false, .bool false, .bool false, .bool false, .bool false, .int .i64 0, .int .i64 0, .int .i64 0, .int .i64 0, .int .i64 0, .int .i64 70]
    refine hK.out _ _ HXb'' (fun hHeld => ?_)
    clear hK K
    refine norm_ (a' := ?_) ?_ ?_
    rotate_left
    · show Act.put _ none _ = _
      simp only [Act.put]
      rfl
    generalize w4.setRow g4 #[.int .i64 0, .bool false, .slice none 0 0, .slice none 0 0, .bool false, .bool false, .bool false, .bool false, .bool false, .int .i64 0, .int .i64 0, .int .i64 0, .int .i64 0, .int .i64 0, .int .i64 70] = w5 at HX3'' HX4'' HXb'' HB4 hHeld ⊢
    refine done_ (done_of HT_.out (by kernel_rfl)) ?_
    have cg3_0 : w5.cell? ⟨g3, 0, none⟩ = some (Value.int .i64 0) := (blk_cell HX3'' 0).trans rfl
    have cg3_1 : w5.cell? ⟨g3, 1, none⟩ = some (Value.bool false) := (blk_cell HX3'' 1).trans rfl
    have cg3_2 : w5.cell? ⟨g3, 2, none⟩ = some (Value.slice none 0 0) := (blk_cell HX3'' 2).trans rfl
    have cg3_3 : w5.cell? ⟨g3, 3, none⟩ = some (Value.slice none 0 0) := (blk_cell HX3'' 3).trans rfl
    have cg3_4 : w5.cell? ⟨g3, 4, none⟩ = some (Value.bool false) := (blk_cell HX3'' 4).trans rfl
    have cg3_5 : w5.cell? ⟨g3, 5, none⟩ = some (Value.bool false) := (blk_cell HX3'' 5).trans rfl
    have cg3_6 : w5.cell? ⟨g3, 6, none⟩ = some (Value.bool false) := (blk_cell HX3'' 6).trans rfl
    have cg3_7 : w5.cell? ⟨g3, 7, none⟩ = some (Value.bool false) := (blk_cell HX3'' 7).trans rfl
    have cg3_8 : w5.cell? ⟨g3, 8, none⟩ = some (Value.bool false) := (blk_cell HX3'' 8).trans rfl
    have cg3_9 : w5.cell? ⟨g3, 9, none⟩ = some (Value.int .i64 0) := (blk_cell HX3'' 9).trans rfl
    have cg3_10 : w5.cell? ⟨g3, 10, none⟩ = some (Value.int .i64 0) := (blk_cell HX3'' 10).trans rfl
    have cg3_11 : w5.cell? ⟨g3, 11, none⟩ = some (Value.int .i64 0) := (blk_cell HX3'' 11).trans rfl
    have cg3_12 : w5.cell? ⟨g3, 12, none⟩ = some (Value.int .i64 0) := (blk_cell HX3'' 12).trans rfl
    have cg3_13 : w5.cell? ⟨g3, 13, none⟩ = some (Value.int .i64 0) := (blk_cell HX3'' 13).trans rfl
    have cg3_14 : w5.cell? ⟨g3, 14, none⟩ = some (Value.int .i64 70) := (blk_cell HX3'' 14).trans rfl
    have cg4_0 : w5.cell? ⟨g4, 0, none⟩ = some (Value.int .i64 0) := (blk_cell HX4'' 0).trans rfl
    have cg4_1 : w5.cell? ⟨g4, 1, none⟩ = some (Value.bool false) := (blk_cell HX4'' 1).trans rfl
    have cg4_2 : w5.cell? ⟨g4, 2, none⟩ = some (Value.slice none 0 0) := (blk_cell HX4'' 2).trans rfl
    have cg4_3 : w5.cell? ⟨g4, 3, none⟩ = some (Value.slice none 0 0) := (blk_cell HX4'' 3).trans rfl
    have cg4_4 : w5.cell? ⟨g4, 4, none⟩ = some (Value.bool false) := (blk_cell HX4'' 4).trans rfl
    have cg4_5 : w5.cell? ⟨g4, 5, none⟩ = some (Value.bool false) := (blk_cell HX4'' 5).trans rfl
    have cg4_6 : w5.cell? ⟨g4, 6, none⟩ = some (Value.bool false) := (blk_cell HX4'' 6).trans rfl
    have cg4_7 : w5.cell? ⟨g4, 7, none⟩ = some (Value.bool false) := (blk_cell HX4'' 7).trans rfl
    have cg4_8 : w5.cell? ⟨g4, 8, none⟩ = some (Value.bool false) := (blk_cell HX4'' 8).trans rfl
    have cg4_9 : w5.cell? ⟨g4, 9, none⟩ = some (Value.int .i64 0) := (blk_cell HX4'' 9).trans rfl
    have cg4_10 : w5.cell? ⟨g4, 10, none⟩ = some (Value.int .i64 0) := (blk_cell HX4'' 10).trans rfl
    have cg4_11 : w5.cell? ⟨g4, 11, none⟩ = some (Value.int .i64 0) := (blk_cell HX4'' 11).trans rfl
    have cg4_12 : w5.cell? ⟨g4, 12, none⟩ = some (Value.int .i64 0) := (blk_cell HX4'' 12).trans rfl
    have cg4_13 : w5.cell? ⟨g4, 13, none⟩ = some (Value.int .i64 0) := (blk_cell HX4'' 13).trans rfl
    have cg4_14 : w5.cell? ⟨g4, 14, none⟩ = some (Value.int .i64 70) := (blk_cell HX4'' 14).trans rfl
    clear HX3'' HX4'' HXb'' HX3' HX4' HXb' HB3' HX3 HX4 HXb HB3 HX HB hHeld HT_ HW_
    have e76 := EqT.eq76
    have e77 := EqT.eq77
    go_wp2_with fail
    go_loopw [5] (fun v5 wr => v5 = .int .i64 0 ∧ wr = w5) (fun _ _ => 0)
    case atStart => exact ⟨rfl, rfl⟩
    case round =>
      obtain ⟨rfl, rfl⟩ := hrel
      go_wp2_with fail
      go_loopw [6] (fun v6 wr2 => v6 = .int .i64 0 ∧ wr2 = wr) (fun _ _ => 0)
      case atStart => exact ⟨rfl, rfl⟩
      case round =>
        obtain ⟨rfl, rfl⟩ := hrel
        go_wp2_with fail
        go_ret
        exact ⟨by first | rfl | simp, HB4⟩
end Go.Proofs.Ytbeefbhoccdicaa.IsK
