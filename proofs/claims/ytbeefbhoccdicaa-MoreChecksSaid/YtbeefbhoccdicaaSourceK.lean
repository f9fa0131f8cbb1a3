/- A source vertex, checked: walked. -/
import Derived.Test.YtbeefbhoccdicaaFindG
import Derived.Shelf.RegionOpen
namespace Go.Proofs.Ytbeefbhoccdicaa.SourceK
open Go.RowKit Go.Shelf Go.Proofs.YtbeefbhoccdicaaW.PrintWords Go.Proofs.YtbeefbhoccdicaaW.PrintLast Go.Proofs.YtbeefbhoccdicaaW.PrintMore Go.Proofs.Ytbeefbhoccdicaa.QGraphReads Go.Proofs.Ytbeefbhoccdicaa.WireNum Go.Proofs.Ytbeefbhoccdicaa.PutG Go.Proofs.Ytbeefbhoccdicaa.FindG
set_option linter.unusedVariables false
set_option linter.unusedSimpArgs false

def T3 : Bool × List (List Nat × List Nat) := (true, [([], []), ([], []), ([1], [1]), ([2], [2]), ([0, 3], [0, 3]), ([4], [4]), ([5], [5]), ([5], [5]), ([6, 4, 0, 1, 2, 3, 4, 5, 6], [6]), ([7, 8, 0, 1, 2, 3, 4, 5, 6, 7, 8], [7])])
def B3 : List Nat := [0, 0, 2, 6, 15, 31, 63, 63, 127, 511]
theorem tab3 : rtab .any (opsOf Try.f58 3) = T3 := by kernel_rfl
theorem bits3 : waitsOk T3.2 B3 = true := by kernel_rfl
/-- What is said of a source vertex. -/
def srcR (L : List S53) (p : List Int) : Int := if p.length = 1 then (if isR L (rd p 0) = true then 0 else 71) else 71

set_option maxHeartbeats 4000000 in
set_option maxRecDepth 100000 in
theorem source_calls (w : World) (L : List S53) (A : Option Addr) (c : Nat) (p : List Int) (B : Option Addr) (cb : Nat) (hr : Kd.C k53 w A L.length L) (hp : Kd.C (Kd.int .i64) w B p.length p) (hg : Grows L) (hn : L.length ≤ 256) :
    Calls Try.prog 58 #[.agg #[.slice A L.length c], .slice B p.length cb] w fun e w' => e = .returned (.int .i64 (srcR L p)) ∧ Below w.heap.size w w' := by
  by_cases h1 : p.length = 1
  · obtain ⟨ad, hB, hc0⟩ := Kd.at_int hp 0 (by omega) (by omega)
    subst hB
    rw [srcR, if_pos h1]
    rw [h1]
    replace hc0 : w.cell? ad = some (.int .i64 (rd p 0)) := by simpa [Addr.add] using hc0
    generalize rd p 0 = p0 at hc0 ⊢
    obtain ⟨bb, hbb0⟩ : ∃ bb, isR L p0 = bb := ⟨_, rfl⟩
    rw [hbb0]
    have hbb := Aside0.mk hbb0
    clear hbb0
    have HX := Aside0.mk (blk_drew (blk_new w (.cells #[.slice A L.length c] 24)))
    have HB := Aside0.mk (below_drew1 (below_alloc (Below.refl w.heap.size w) (.cells #[.slice A L.length c] 24)))
    have HR := Aside0.mk (Kd.C_drew (Kd.C_alloc hr (.cells #[.slice A L.length c] 24)))
    have HP := Aside0.mk hc0
    have hp1 : (w.alloc (.cells #[.slice A L.length c] 24)).drew.cell? ad = some (.int .i64 p0) := (HB.out.cell (World.block_lt_of_cell? _ _ hc0)).trans hc0
    go_enter Try.func58, Try.ntmps58
    go_wp2_with fail
    generalize w.alloc (.cells #[.slice A L.length c] 24) = w1 at HX HB HR hp1 ⊢
    refine start_ (n := 10) (S := fun w' => w'.cell? ⟨w.heap.size, 0, none⟩ = some (.slice A L.length c) ∧ w'.cell? ad = some (.int .i64 p0)) (ds := []) #[false, false, false, false, false, false, false, false, false, false] (by kernel_rfl) rfl rfl (⟨(blk_cell HX.out 0).trans rfl, hp1⟩) (fun hHeld => ?_)
    refine with_tabW tab3 bits3 (fun HT_ HW_ => ?_)
    generalize w1.drew = w2 at HX HB HR HP hHeld hp1 ⊢
    refine take_ (i := 0) (N := some 11) (v := ?_) (a' := ?_) #[true, false, false, false, false, false, false, false, false, false] rfl rfl (take_ofW HT_.out HW_.out (by kernel_rfl)) (fun _ _ _ h => h) (Or.inl ⟨by rfl, ?_⟩) hHeld ?_ ?_
    rotate_left
    · intro w' s0
      go_simp
      with_reducible rfl
    rotate_left
    · simp only [Act.put, List.setIfInBounds_toArray, List.set_cons_zero, List.set_cons_succ, i64_w, i32_w]
      rfl
    refine pure_ (i := 1) (N := some 12) (v := ?_) (a' := ?_) #[true, true, false, false, false, false, false, false, false, false] rfl rfl (any_of HT_.out (by kernel_rfl)) (fun _ _ _ h => h) (Or.inl ⟨by rfl, ?_⟩) ?_ ?_
    rotate_left
    · intro w'
      go_simp
      with_reducible rfl
    rotate_left
    · simp only [Act.put, List.setIfInBounds_toArray, List.set_cons_zero, List.set_cons_succ, i64_w, i32_w]
      rfl
    refine pure_ (i := 2) (N := some 13) (v := ?_) (a' := ?_) #[true, true, true, false, false, false, false, false, false, false] rfl rfl (any_of HT_.out (by kernel_rfl)) (fun _ _ _ h => h) (Or.inl ⟨by rfl, ?_⟩) ?_ ?_
    rotate_left
    · intro w'
      go_simp
      with_reducible rfl
    rotate_left
    · simp only [Act.put, List.setIfInBounds_toArray, List.set_cons_zero, List.set_cons_succ, i64_w, i32_w]
      rfl
    refine take_ (i := 3) (N := some 14) (v := ?_) (a' := ?_) #[true, true, true, true, false, false, false, false, false, false] rfl rfl (take_ofW HT_.out HW_.out (by kernel_rfl)) (fun _ _ _ h => h) (Or.inl ⟨by rfl, ?_⟩) hHeld ?_ ?_
    rotate_left
    · intro w' s0
      go_simp
      with_reducible rfl
    rotate_left
    · simp only [Act.put, List.setIfInBounds_toArray, List.set_cons_zero, List.set_cons_succ, i64_w, i32_w]
      rfl
    refine one_ (i := 4) (N := some 15) #[true, true, true, true, true, false, false, false, false, false] rfl rfl (one_of HT_.out (by kernel_rfl)) (by decide) (fun K hK => ?_)
    refine goes_ Try.func36 (by kernel_rfl) rfl #[.agg #[.slice A L.length c], .int .i64 p0] (by rfl) rfl rfl (by simp; exact ⟨rfl, rfl⟩) ?_
    refine (find_calls w2 L p0 A c HR.out hg hn).mono ?_
    generalize lowR L p0 = lo
    rw [hbb.out]
    rintro e w3 ⟨rfl, hb3⟩
    refine ⟨_, rfl, ?_⟩
    have HX3 := Aside0.mk (blk_below HX.out hb3)
    have HB3 := Aside0.mk (below_then HB.out HB.out.size hb3)
    have hp3 : w3.cell? ad = some (.int .i64 p0) := (hb3.cell (World.block_lt_of_cell? _ _ hp1)).trans hp1
    clear hb3 HX HB HR HP hp1
    refine hK.out _ _ (⟨(blk_cell HX3.out 0).trans rfl, hp3⟩) (fun hHeld => ?_)
    clear hK K
    refine norm_ (a' := ?_) ?_ ?_
    rotate_left
    · show Act.put _ (some 15) _ = _
      simp only [Act.put, List.setIfInBounds_toArray, List.set_cons_zero, List.set_cons_succ, i64_w, i32_w]
      rfl
    refine pure_ (i := 5) (N := some 10) (v := ?_) (a' := ?_) #[true, true, true, true, true, true, false, false, false, false] rfl rfl (any_of HT_.out (by kernel_rfl)) (fun _ _ _ h => h) (Or.inl ⟨by rfl, ?_⟩) ?_ ?_
    rotate_left
    · intro w'
      go_simp
      with_reducible rfl
    rotate_left
    · simp only [Act.put, List.setIfInBounds_toArray, List.set_cons_zero, List.set_cons_succ, i64_w, i32_w]
      rfl
    refine pure_ (i := 6) (N := some 16) (v := ?_) (a' := ?_) #[true, true, true, true, true, true, true, false, false, false] rfl rfl (any_of HT_.out (by kernel_rfl)) (fun _ _ _ h => h) (Or.inl ⟨by rfl, ?_⟩) ?_ ?_
    rotate_left
    · intro w'
      go_simp
      with_reducible rfl
    rotate_left
    · simp only [Act.put, List.setIfInBounds_toArray, List.set_cons_zero, List.set_cons_succ, i64_w, i32_w]
      rfl
    refine pure_ (i := 7) (N := some 17) (v := ?_) (a' := ?_) #[true, true, true, true, true, true, true, true, false, false] rfl rfl (any_of HT_.out (by kernel_rfl)) (fun _ _ _ h => h) (Or.inl ⟨by rfl, ?_⟩) ?_ ?_
    rotate_left
    · intro w'
      go_simp
      with_reducible rfl
    rotate_left
    · simp only [Act.put, List.setIfInBounds_toArray, List.set_cons_zero, List.set_cons_succ, i64_w, i32_w]
      rfl
    refine pure_ (i := 8) (N := some 5) (v := ?_) (a' := ?_) #[true, true, true, true, true, true, true, true, true, false] rfl rfl (any_of HT_.out (by kernel_rfl)) (fun _ _ _ h => h) (Or.inl ⟨by rfl, ?_⟩) ?_ ?_
    rotate_left
    · intro w'
      go_simp
      with_reducible rfl
    rotate_left
    · simp only [Act.put, List.setIfInBounds_toArray, List.set_cons_zero, List.set_cons_succ, i64_w, i32_w]
      rfl
    refine pure_ (i := 9) (N := some 6) (v := ?_) (a' := ?_) #[true, true, true, true, true, true, true, true, true, true] rfl rfl (any_of HT_.out (by kernel_rfl)) (fun _ _ _ h => h) (Or.inl ⟨by rfl, ?_⟩) ?_ ?_
    rotate_left
    · intro w'
      go_simp
      with_reducible rfl
    rotate_left
    · simp only [Act.put, List.setIfInBounds_toArray, List.set_cons_zero, List.set_cons_succ, i64_w, i32_w]
      rfl
    refine done_ (done_of HT_.out (by kernel_rfl)) ?_
    cases bb
    · go_wp2_with fail
      go_ret
      exact ⟨by first | rfl | simp, HB3.out⟩
    · go_wp2_with fail
      go_ret
      exact ⟨by first | rfl | simp, HB3.out⟩
  · rw [srcR, if_neg h1]
    have HB := Aside0.mk (below_alloc (Below.refl w.heap.size w) (.cells #[.slice A L.length c] 24))
    have h2 : ((p.length : Int) != 1) = true := bne_iff_ne.2 (by omega)
    go_enter Try.func58, Try.ntmps58
    go_wp2_with fail
    go_ret
    exact ⟨by first | rfl | simp, HB.out⟩
end Go.Proofs.Ytbeefbhoccdicaa.SourceK
