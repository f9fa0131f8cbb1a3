/- A graph is cloned: walked. -/
import Derived.Test.YtbeefbhoccdicaaClG
import Derived.Test.YtbeefbhoccdicaaWNEv
import Derived.Shelf.RegionOpen
namespace Go.Proofs.Ytbeefbhoccdicaa.CloneW
open Go.RowKit Go.Shelf Go.Proofs.YtbeefbhoccdicaaW.PrintWords Go.Proofs.YtbeefbhoccdicaaW.PrintLast Go.Proofs.YtbeefbhoccdicaaW.PrintMore Go.Proofs.Ytbeefbhoccdicaa.QGraphReads Go.Proofs.Ytbeefbhoccdicaa.CloneG Go.Proofs.Ytbeefbhoccdicaa.ClG
set_option linter.unusedVariables false
set_option linter.unusedSimpArgs false

def T5 : Bool × List (List Nat × List Nat) := (true, [([], []), ([0], [0]), ([], []), ([], []), ([3], [3]), ([4], [4]), ([1, 2, 0, 1, 2, 3, 4, 5], [1, 2]), ([6, 0, 1, 2, 3, 4, 5], [6]), ([7, 5, 5, 0, 1, 2, 3, 4, 5], [5, 7])])
def B5 : List Nat := [0, 1, 0, 0, 8, 24, 63, 127, 255]
theorem tab5 : rtab .any (opsOf Try.f41 5) = T5 := by kernel_rfl
theorem bits5 : waitsOk T5.2 B5 = true := by kernel_rfl

theorem results_cell24 {fn : Func} {q : Tmp} (h : fn.results = #[.cell q 24]) (tmps : Array Value) (w : World) (g : Nat) (A : Option Addr) (n c : Nat)
    (hp : tmps.getD q undef = .pointer (some ⟨g, 0, none⟩)) (hc : w.cell? ⟨g, 0, none⟩ = some (.slice A n c)) :
    (results fn tmps).run Try.prog w = .ok (.agg #[.slice A n c]) w := by
  have hp' : tmps[q]?.getD undef = .pointer (some ⟨g, 0, none⟩) := by simpa using hp
  have hu := Try.underlying24
  simp only [results, h]
  go_simp
theorem start_rows {w : World} {L : List S53} {A : Option Addr} (hr : Kd.C k53 w A L.length L) : ∃ rows : List (List Value), rows.length = L.length ∧ Kd.C (Kd.raw 3) w A L.length rows ∧
    ∀ j, j < L.length → ∃ A2 c2, rows.getD j [] = vc (L.getD j z53) (.slice A2 (L.getD j z53).f2.length c2) ∧ (L.getD j z53).f2.length ≤ c2 ∧ Kd.C k67 w A2 (L.getD j z53).f2.length (L.getD j z53).f2 := by
  obtain ⟨news, hnl, hnr, hnf⟩ := Kd.reads_raw hr (fun y c hk => ⟨k53.K_len hk, k53.K_one hk⟩)
  refine ⟨news, hnl, hnr, fun j hj => ?_⟩
  have hk := hnf j (L.getD j z53) (news.getD j []) (by rw [List.getD_eq_getElem?_getD, List.getElem?_eq_getElem hj]; rfl) (by rw [List.getD_eq_getElem?_getD, List.getElem?_eq_getElem (show j < news.length by omega)]; rfl)
  obtain ⟨A2, c2, he, hl, hC⟩ := k53_open hk
  exact ⟨A2, c2, he, hl, hC⟩

set_option maxHeartbeats 8000000 in
set_option maxRecDepth 100000 in
theorem clone_calls (w : World) (L : List S53) (A : Option Addr) (c : Nat) (hr : Kd.C k53 w A L.length L) (hl : L.length * 40 ≤ 140737488355328) (he : ∀ v ∈ L, v.f2.length * 16 ≤ 140737488355328) :
    Calls Try.prog 41 #[.agg #[.slice A L.length c]] w fun e w' => ∃ v, e = .returned (.agg #[v]) ∧ Cl w' w.heap.size v L ∧ Below w.heap.size w w' := by
  have HR := Aside0.mk hr
  have HE := Aside0.mk he
  clear hr he
  go_enter Try.func41, Try.ntmps41
  go_wp2_with fail
  obtain ⟨rows, hrl, hrC, hrow⟩ := start_rows HR.out
  have hv := verts_calls ((w.alloc (.cells #[.slice A L.length c] 24)).alloc (.cells #[.slice none 0 0] 24)) rows A c (by rw [hrl]; exact Kd.C_below hrC (below_alloc (below_alloc (Below.refl _ _) _) _)) (by rw [hrl]; exact hl)
  rw [hrl] at hv
  refine hv.mono ?_
  clear hv
  have HB0 := Aside0.mk (below_alloc (below_alloc (Below.refl w.heap.size w) (.cells #[.slice A L.length c] 24)) (.cells #[.slice none 0 0] 24))
  have HX0 := Aside0.mk (blk_alloc (blk_new w (.cells #[.slice A L.length c] 24)) (.cells #[.slice none 0 0] 24))
  have HY0 := Aside0.mk (blk_new (w.alloc (.cells #[.slice A L.length c] 24)) (.cells #[.slice none 0 0] 24))
  rw [World.size_alloc] at HY0
  have hs2 : ((w.alloc (.cells #[.slice A L.length c] 24)).alloc (.cells #[.slice none 0 0] 24)).heap.size = w.heap.size + 2 := by rw [World.size_alloc, World.size_alloc]
  generalize (w.alloc (.cells #[.slice A L.length c] 24)).alloc (.cells #[.slice none 0 0] 24) = w2 at HB0 HX0 HY0 hs2 ⊢
  rintro e w3 ⟨v, rfl, hV, hB⟩
  have HC := Aside0.mk (show ClP w w3 w.heap.size 0 v L from ⟨rows, fun _ => 0, hrl, Kd.R_lower hV (by omega), fun j hj => ⟨fun h => by omega, fun _ => hrow j hj⟩⟩)
  have hB3 := below_then HB0.out HB0.out.size hB
  have HX3 := Aside0.mk (blk_below HX0.out hB)
  have HY3 := Aside0.mk (blk_below HY0.out hB)
  have HB3 := Aside0.mk hB3
  have hlt3 := hB.size
  clear hV hrow hrC hrl HB0 HX0 HY0 hB hB3
  obtain ⟨Av, cv, rfl⟩ := HC.out.slice
  have HXn := Aside0.mk (blk_new w3 (.cells #[.slice Av L.length cv] 24))
  go_wp2_with fail
  go_loopw [13] (fun v13 wr => ∃ k : Nat, v13 = .int .i64 (k : Int) ∧ k ≤ L.length ∧ Aside0 (ClP w wr w.heap.size k (.slice Av L.length cv) L) ∧ Aside0 (Below w.heap.size w wr) ∧ Aside0 (wr.heap[w.heap.size + 1]? = some (.cells #[.slice none 0 0] 24 (0, 0))) ∧ Aside0 (wr.heap[w3.heap.size]? = some (.cells #[.slice Av L.length cv] 24 (0, 0)))) (fun v13 _ => (L.length - (intOf v13)).toNat)
  case atStart => exact ⟨0, rfl, Nat.zero_le _, ⟨HC.out.below (below_alloc (Below.refl _ _) _)⟩, ⟨below_alloc HB3.out _⟩, ⟨blk_alloc HY3.out _⟩, HXn⟩
  case round =>
    obtain ⟨k, rfl, hk, HCr, HBr, HYr, HZr⟩ := hrel
    rcases Nat.lt_or_ge k L.length with hlt | hge
    · have hlt1 : ((k : Int) < (L.length : Int)) = True := eq_true (by omega)
      obtain ⟨g, cap, hv, hbg, hgl, cells, hgt⟩ := HCr.out.form (by omega)
      injection hv with hv1 hv2 hv3
      subst hv1
      subst hv3
      obtain ⟨A2, c2, hx0, hx1, hx2, hf2, hl2, hC2⟩ := HCr.out.at_ hlt
      have HC2 := Aside0.mk hC2
      have HL2 := Aside0.mk hl2
      have HLE := Aside0.mk (HE.out _ (PutG.getD_mem L k z53 hlt))
      have HED := Aside0.mk (show L.getD k z53 = L.getD k z53 from rfl)
      clear hC2 hl2 HED
      obtain ⟨ed, hed⟩ : ∃ ed, L.getD k z53 = ed := ⟨_, rfl⟩
      rw [hed] at hx0 hx1 hx2 HC2 HL2 HLE
      have HED := Aside0.mk hed
      clear hed
      have hwlt := blk_lt HZr.out
      go_wp2_with fail
      have HN := Aside0.mk (blk_drew (blk_new wr (.cells #[.int .i64 ed.f0, .int .i64 ed.f1, .slice A2 ed.f2.length c2] 53)))
      have HZ4 := Aside0.mk (blk_drew (blk_alloc HZr.out (.cells #[.int .i64 ed.f0, .int .i64 ed.f1, .slice A2 ed.f2.length c2] 53)))
      have HB4 := Aside0.mk (below_drew1 (below_alloc HBr.out (.cells #[.int .i64 ed.f0, .int .i64 ed.f1, .slice A2 ed.f2.length c2] 53)))
      have HR4 := Aside0.mk (below_drew1 (below_alloc (Below.refl wr.heap.size wr) (.cells #[.int .i64 ed.f0, .int .i64 ed.f1, .slice A2 ed.f2.length c2] 53)))
      generalize wr.alloc (.cells #[.int .i64 ed.f0, .int .i64 ed.f1, .slice A2 ed.f2.length c2] 53) = w4 at HN HZ4 HB4 HR4 ⊢
      have hk2 : (0 : Int) ≤ (k : Int) ∧ (k : Int) < (L.length : Int) := ⟨by omega, by omega⟩
      refine start_ (n := 9) (S := fun w' => w'.cell? ⟨w3.heap.size, 0, none⟩ = some (.slice (some ⟨g, 0, none⟩) L.length cv) ∧ w'.cell? ⟨wr.heap.size, 2, none⟩ = some (.slice A2 ed.f2.length c2)) (ds := [8]) #[false, false, false, false, false, false, false, false, false] (by kernel_rfl) rfl rfl (⟨(blk_cell HZ4.out 0).trans rfl, (blk_cell HN.out 2).trans rfl⟩) (fun hHeld => ?_)
      refine with_tabW tab5 bits5 (fun HT_ HW_ => ?_)
      generalize w4.drew = w5 at HN HZ4 HB4 HR4 hHeld ⊢
      refine pure_ (i := 0) (N := some 18) (v := ?_) (a' := ?_) #[true, false, false, false, false, false, false, false, false] rfl rfl (any_of HT_.out (by kernel_rfl)) (fun _ _ _ h => h) (Or.inl ⟨by rfl, ?_⟩) ?_ ?_
      rotate_left
      · intro w'
        go_simp
        with_reducible rfl
      rotate_left
      · simp only [Act.put, List.setIfInBounds_toArray, List.set_cons_zero, List.set_cons_succ, i64_w, i32_w]
        rfl
      refine take_ (i := 1) (N := some 19) (v := ?_) (a' := ?_) #[true, true, false, false, false, false, false, false, false] rfl rfl (take_ofW HT_.out HW_.out (by kernel_rfl)) (fun _ _ _ h => h) (Or.inl ⟨by rfl, ?_⟩) hHeld ?_ ?_
      rotate_left
      · intro w' s0
        go_simp
        with_reducible rfl
      rotate_left
      · simp only [Act.put, List.setIfInBounds_toArray, List.set_cons_zero, List.set_cons_succ, i64_w, i32_w]
        rfl
      refine pure_ (i := 2) (N := some 20) (v := ?_) (a' := ?_) #[true, true, true, false, false, false, false, false, false] rfl rfl (any_of HT_.out (by kernel_rfl)) (fun _ _ _ h => h) (Or.inl ⟨by rfl, ?_⟩) ?_ ?_
      rotate_left
      · intro w'
        go_simp
        with_reducible rfl
      rotate_left
      · simp only [Act.put, List.setIfInBounds_toArray, List.set_cons_zero, List.set_cons_succ, i64_w, i32_w]
        rfl
      refine pure_ (i := 3) (N := some 21) (v := ?_) (a' := ?_) #[true, true, true, true, false, false, false, false, false] rfl rfl (any_of HT_.out (by kernel_rfl)) (fun _ _ _ h => h) (Or.inl ⟨by rfl, ?_⟩) ?_ ?_
      rotate_left
      · intro w'
        go_simp
        with_reducible rfl
      rotate_left
      · simp only [Act.put, List.setIfInBounds_toArray, List.set_cons_zero, List.set_cons_succ, i64_w, i32_w]
        rfl
      refine take_ (i := 4) (N := some 22) (v := ?_) (a' := ?_) #[true, true, true, true, true, false, false, false, false] rfl rfl (take_ofW HT_.out HW_.out (by kernel_rfl)) (fun _ _ _ h => h) (Or.inl ⟨by rfl, ?_⟩) hHeld ?_ ?_
      rotate_left
      · intro w' s0
        go_simp
        with_reducible rfl
      rotate_left
      · simp only [Act.put, List.setIfInBounds_toArray, List.set_cons_zero, List.set_cons_succ, i64_w, i32_w]
        rfl
      refine one_ (i := 5) (N := some 23) #[true, true, true, true, true, true, false, false, false] rfl rfl (one_of HT_.out (by kernel_rfl)) (by decide) (fun K hK => ?_)
      refine goes_ Try.func93 (by kernel_rfl) rfl #[.slice A2 ed.f2.length c2] (by rfl) rfl rfl (by simp; rfl) ?_
      refine (edges_calls w5 ed.f2 A2 c2 (Kd.C_below HC2.out HB4.out) HLE.out).mono ?_
      rintro e w6 ⟨x, rfl, hx, hb6⟩
      refine ⟨_, rfl, ?_⟩
      have hZ6 := blk_below HZ4.out hb6
      have hN6 := blk_below HN.out hb6
      refine hK.out _ _ (⟨(blk_cell hZ6 0).trans rfl, (blk_cell hN6 2).trans rfl⟩) (fun hHeld => ?_)
      clear hK K
      refine norm_ (a' := ?_) ?_ ?_
      rotate_left
      · show Act.put _ (some 23) _ = _
        simp only [Act.put, List.setIfInBounds_toArray, List.set_cons_zero, List.set_cons_succ, i64_w, i32_w]
        rfl
      refine pure_ (i := 6) (N := some 24) (v := ?_) (a' := ?_) #[true, true, true, true, true, true, true, false, false] rfl rfl (any_of HT_.out (by kernel_rfl)) (fun _ _ _ h => h) (Or.inl ⟨by rfl, ?_⟩) ?_ ?_
      rotate_left
      · intro w'
        go_simp
        with_reducible rfl
      rotate_left
      · simp only [Act.put, List.setIfInBounds_toArray, List.set_cons_zero, List.set_cons_succ, i64_w, i32_w]
        rfl
      refine pure_ (i := 7) (N := some 25) (v := ?_) (a' := ?_) #[true, true, true, true, true, true, true, true, false] rfl rfl (any_of HT_.out (by kernel_rfl)) (fun _ _ _ h => h) (Or.inl ⟨by rfl, ?_⟩) ?_ ?_
      rotate_left
      · intro w'
        go_simp
        with_reducible rfl
      rotate_left
      · simp only [Act.put, List.setIfInBounds_toArray, List.set_cons_zero, List.set_cons_succ, i64_w, i32_w]
        rfl
      refine last_ (i := 8) (N := none) #[true, true, true, true, true, true, true, true, true] rfl rfl (one_of HT_.out (by kernel_rfl)) (by decide) (fun K hK => ?_)

      obtain ⟨Ax, cx, rfl⟩ := Kd.R_slice hx
      have hR6 := below_then HR4.out HR4.out.size hb6
      have hg6 := blk_below hgt hR6
      have hs6 : w6.cell? ⟨g, k * 3 + 2, none⟩ = some (.slice A2 ed.f2.length c2) := (hR6.cell hgl).trans hx2
      have hf6 : w6.frozen? ⟨g, k * 3 + 2, none⟩ = false := blk_frozen hg6 _
      refine skip_ (w1 := ?_) (by rfl) rfl ?_ ?_
      rotate_left
      · go_simp
        rfl
      refine hK.out _ _ ?_
      clear hK K
      refine done_ (done_of HT_.out (by kernel_rfl)) ?_
      have hne : g ≠ w3.heap.size := by
        intro h
        rw [h] at hgt
        have := hgt.symm.trans HZr.out
        injection this with this
        injection this with _ this
        cases this
      have hne2 : g ≠ w.heap.size + 1 := by
        intro h
        rw [h] at hgt
        have := hgt.symm.trans HYr.out
        injection this with this
        injection this with _ this
        cases this
      have HC7 := Aside0.mk (ClP.step (x := .slice Ax ed.f2.length cx) HCr.out hlt hR6 HBr.out.size (by rw [HED.out]; exact Kd.R_lower hx (HR4.out.size)))
      have HB7 := Aside0.mk (below_set (v := .slice Ax ed.f2.length cx) (j := k * 3 + 2) (below_then HB4.out HB4.out.size hb6) hbg)
      have HY7 := Aside0.mk (blk_far (p := ⟨g, k * 3 + 2, none⟩) (blk_below HYr.out hR6) (Ne.symm hne2) (.slice Ax ed.f2.length cx))
      have HZ7 := Aside0.mk (blk_far (p := ⟨g, k * 3 + 2, none⟩) (blk_below HZr.out hR6) (Ne.symm hne) (.slice Ax ed.f2.length cx))
      generalize w6.setCell ⟨g, k * 3 + 2, none⟩ (.slice Ax ed.f2.length cx) = w7 at HC7 HB7 HY7 HZ7 ⊢
      go_wp2_with fail
      go_roundw
      case rel => exact ⟨k + 1, by go_num, by omega, HC7, HB7, HY7, HZ7⟩
      case measure => simp [intOf]; omega
    · have hk1 : k = L.length := by omega
      subst hk1
      have hcz : wr.cell? ⟨w3.heap.size, 0, none⟩ = some (.slice Av L.length cv) := (blk_cell HZr.out 0).trans rfl
      have hcy := (blk_cell HYr.out 0)
      have hfy := blk_frozen HYr.out 0
      go_wp2_with fail
      refine bodyPost_ret (v := .agg #[.slice Av L.length cv]) (results_cell24 rfl _ _ (w.heap.size + 1) _ _ _ rfl ((blk_cell (blk_set HYr.out 0 _) 0).trans rfl)) rfl ?_
      exact ⟨_, rfl, (HCr.out.all).set HYr.out (by decide) (by decide) 0 _, below_set HBr.out (Nat.le_succ _)⟩
end Go.Proofs.Ytbeefbhoccdicaa.CloneW
