/- KernTells: the law's own code, walked. -/
import Derived.Test.YtbeefbhoccdicaaAwakeK
import Derived.Test.YtbeefbhoccdicaaWEqStruct
import Derived.Deep.MidRow
import Derived.Shelf.RegionOpen
import Derived.BigQuiet
namespace Go.Proofs.Ytbeefbhoccdicaa.TellLaw
open Go.RowKit Go.Shelf Go.Proofs.YtbeefbhoccdicaaW.PrintWords Go.Proofs.YtbeefbhoccdicaaW.PrintLast Go.Proofs.YtbeefbhoccdicaaW.PrintMore Go.Proofs.Ytbeefbhoccdicaa.QGraphReads Go.Proofs.Ytbeefbhoccdicaa.KernM
set_option linter.unusedVariables false
set_option linter.unusedSimpArgs false

theorem range_of {w : World} {b t : Nat} {cs : List Value} (h : w.heap[b]? = some (.cells cs.toArray t (0, 0))) : w.rangeAt b 0 cs := by
  intro j v hj
  have := blk_cell h j
  rw [Nat.zero_add, this]
  simpa using hj

theorem to_at (id v : Int) (L : List S67) {k : Nat} (h : k < L.length) : rd4 (toL id v L L.length) (k : Int) = ⟨id, (L.getD k z67).f0, k, v⟩ := by
  unfold rd4 toL
  rw [Int.toNat_natCast, List.getD_eq_getElem?_getD, List.getElem?_map, List.getElem?_range h]
  rfl
theorem back_at (id : Int) (L : List S67) {k : Nat} (h : k < L.length) : rd4 (backL id L L.length) (k : Int) = ⟨4, (L.getD k z67).f0, id, 0⟩ := by
  unfold rd4 backL
  rw [Int.toNat_natCast, List.getD_eq_getElem?_getD, List.getElem?_map, List.getElem?_range h]
  rfl
def T1 : Bool × List (List Nat × List Nat) := (true, [([], []), ([], []), ([0, 1], [0, 1]), ([], []), ([3, 2], [3]), ([2, 4, 0, 1, 2], [2]), ([4, 5, 0, 1, 2, 3, 4, 5], [4])])
def B1 : List Nat := [0, 0, 3, 0, 15, 31, 63]
theorem tab1 : rtab .any (opsOf Try.f8 1) = T1 := by kernel_rfl
theorem bits1 : waitsOk T1.2 B1 = true := by kernel_rfl

set_option maxHeartbeats 4000000 in
set_option maxRecDepth 100000 in
theorem law_calls (w : World) (L : List S67) (A : Option Addr) (c : Nat) (id v : Int) (c0 c2 c4 c5 c6 c7 c8 c9 c10 c11 c12 c13 c14 c15 c16 c17 : Value) (hr : Kd.C k67 w A L.length L) (hl : L.length * 32 ≤ 140737488355328) :
    Calls Try.prog 8 #[.agg #[c0, .int .i64 id, c2, .slice A L.length c, c4, c5, c6, c7, c8, c9, c10, c11, c12, c13, c14, c15, c16, c17], .int .i64 v] w fun e w' => e = .returned (.bool true) ∧ Below w.heap.size w w' := by
  have HX := Aside0.mk (blk_new w (.cells #[c0, .int .i64 id, c2, .slice A L.length c, c4, c5, c6, c7, c8, c9, c10, c11, c12, c13, c14, c15, c16, c17] 81))
  have HB := Aside0.mk (below_alloc (Below.refl w.heap.size w) (.cells #[c0, .int .i64 id, c2, .slice A L.length c, c4, c5, c6, c7, c8, c9, c10, c11, c12, c13, c14, c15, c16, c17] 81))
  have HR := Aside0.mk (Kd.C_alloc hr (.cells #[c0, .int .i64 id, c2, .slice A L.length c, c4, c5, c6, c7, c8, c9, c10, c11, c12, c13, c14, c15, c16, c17] 81))
  clear hr
  go_enter Try.func8, Try.ntmps8
  go_wp2_with fail
  generalize w.alloc (.cells #[c0, .int .i64 id, c2, .slice A L.length c, c4, c5, c6, c7, c8, c9, c10, c11, c12, c13, c14, c15, c16, c17] 81) = w1 at HX HB HR ⊢
  replace HX := Aside0.mk (blk_drew HX.out)
  replace HR := Aside0.mk (Kd.C_drew HR.out)
  replace HB := Aside0.mk (below_drew1 HB.out)
  refine start_ (n := 7) (S := fun w' => w'.heap[w.heap.size]? = some (.cells #[c0, .int .i64 id, c2, .slice A L.length c, c4, c5, c6, c7, c8, c9, c10, c11, c12, c13, c14, c15, c16, c17] 81 (0, 0))) (ds := []) #[false, false, false, false, false, false, false] (by kernel_rfl) rfl rfl (HX.out) (fun hHeld => ?_)
  refine with_tabW tab1 bits1 (fun HT_ HW_ => ?_)
  generalize w1.drew = w2 at HX HR HB hHeld ⊢
  refine take_ (i := 0) (N := some 9) (v := .agg #[c0, .int .i64 id, c2, .slice A L.length c, c4, c5, c6, c7, c8, c9, c10, c11, c12, c13, c14, c15, c16, c17]) (a' := ?_) #[true, false, false, false, false, false, false] rfl rfl (take_ofW HT_.out HW_.out (by kernel_rfl)) (fun _ _ _ h => h) (yieldsIf_load_mid (by rfl) 81 (.tmp 2) rfl w.heap.size 0 rfl [c0, .int .i64 id, c2, .slice A L.length c, c4, c5, c6, c7, c8, c9, c10, c11, c12, c13, c14, c15, c16, c17] _ (fun w' h => range_of h) Try.underlying81 rfl (by kernel_rfl)) hHeld ?_ ?_
  rotate_left
  · simp only [Act.put, List.setIfInBounds_toArray, List.set_cons_zero, List.set_cons_succ, i64_w, i32_w]
    rfl
  refine pure_ (i := 1) (N := some 10) (v := ?_) (a' := ?_) #[true, true, false, false, false, false, false] rfl rfl (any_of HT_.out (by kernel_rfl)) (fun _ _ _ h => h) (Or.inl ⟨by rfl, ?_⟩) ?_ ?_
  rotate_left
  · intro w'
    go_simp
    with_reducible rfl
  rotate_left
  · simp only [Act.put, List.setIfInBounds_toArray, List.set_cons_zero, List.set_cons_succ, i64_w, i32_w]
    rfl
  refine take_ (i := 3) (N := some 12) (v := .agg #[c0, .int .i64 id, c2, .slice A L.length c, c4, c5, c6, c7, c8, c9, c10, c11, c12, c13, c14, c15, c16, c17]) (a' := ?_) #[true, true, false, true, false, false, false] rfl rfl (take_ofW HT_.out HW_.out (by kernel_rfl)) (fun _ _ _ h => h) (yieldsIf_load_mid (by rfl) 81 (.tmp 2) rfl w.heap.size 0 rfl [c0, .int .i64 id, c2, .slice A L.length c, c4, c5, c6, c7, c8, c9, c10, c11, c12, c13, c14, c15, c16, c17] _ (fun w' h => range_of h) Try.underlying81 rfl (by kernel_rfl)) hHeld ?_ ?_
  rotate_left
  · simp only [Act.put, List.setIfInBounds_toArray, List.set_cons_zero, List.set_cons_succ, i64_w, i32_w]
    rfl
  refine one_ (i := 2) (N := some 11) #[true, true, true, true, false, false, false] rfl rfl (one_of HT_.out (by kernel_rfl)) (by decide) (fun K hK => ?_)
  refine goes_ Try.func42 (by kernel_rfl) rfl #[.agg #[c0, .int .i64 id, c2, .slice A L.length c, c4, c5, c6, c7, c8, c9, c10, c11, c12, c13, c14, c15, c16, c17], .int .i64 v] (by rfl) rfl rfl (by simp; exact ⟨rfl, rfl⟩) ?_
  refine (to_calls w2 L A c id v _ _ _ _ _ _ _ _ _ _ _ _ _ _ _ _ HR.out hl).mono ?_
  rintro e w3 ⟨⟨u5, rfl, hu5⟩, hb3⟩
  refine ⟨_, rfl, ?_⟩
  have HX3 := Aside0.mk (blk_below HX.out hb3)
  have HR3 := Aside0.mk (Kd.C_below HR.out hb3)
  have HB3 := Aside0.mk (below_then HB.out HB.out.size hb3)
  have HU3 := Aside0.mk hu5
  clear hu5 hb3 HX HR HB
  refine hK.out _ _ (HX3.out) (fun hHeld => ?_)
  clear hK K
  refine norm_ (a' := ?_) ?_ ?_
  rotate_left
  · show Act.put _ (some 11) _ = _
    simp only [Act.put, List.setIfInBounds_toArray, List.set_cons_zero, List.set_cons_succ, i64_w, i32_w]
    rfl
  refine one_ (i := 4) (N := some 13) #[true, true, true, true, true, false, false] rfl rfl (one_of HT_.out (by kernel_rfl)) (by decide) (fun K hK => ?_)
  refine goes_ Try.func43 (by kernel_rfl) rfl #[.agg #[c0, .int .i64 id, c2, .slice A L.length c, c4, c5, c6, c7, c8, c9, c10, c11, c12, c13, c14, c15, c16, c17]] (by rfl) rfl rfl (by simp; rfl) ?_
  refine (back_calls w3 L A c id _ _ _ _ _ _ _ _ _ _ _ _ _ _ _ _ HR3.out hl).mono ?_
  rintro e w4 ⟨⟨u6, rfl, hu6⟩, hb4⟩
  refine ⟨_, rfl, ?_⟩
  have HX4 := Aside0.mk (blk_below HX3.out hb4)
  have HR4 := Aside0.mk (Kd.C_below HR3.out hb4)
  have HB4 := Aside0.mk (below_then HB3.out HB3.out.size hb4)
  have HU4 := Aside0.mk (Kd.R_below HU3.out hb4)
  have HV4 := Aside0.mk hu6
  clear hu6 hb4 HX3 HR3 HB3 HU3
  refine hK.out _ _ (HX4.out) (fun hHeld => ?_)
  clear hK K
  refine norm_ (a' := ?_) ?_ ?_
  rotate_left
  · show Act.put _ (some 13) _ = _
    simp only [Act.put, List.setIfInBounds_toArray, List.set_cons_zero, List.set_cons_succ, i64_w, i32_w]
    rfl
  refine pure_ (i := 5) (N := some 5) (v := ?_) (a' := ?_) #[true, true, true, true, true, true, false] rfl rfl (any_of HT_.out (by kernel_rfl)) (fun _ _ _ h => h) (Or.inl ⟨by rfl, ?_⟩) ?_ ?_
  rotate_left
  · intro w'
    go_simp
    with_reducible rfl
  rotate_left
  · simp only [Act.put, List.setIfInBounds_toArray, List.set_cons_zero, List.set_cons_succ, i64_w, i32_w]
    rfl
  refine pure_ (i := 6) (N := some 6) (v := ?_) (a' := ?_) #[true, true, true, true, true, true, true] rfl rfl (any_of HT_.out (by kernel_rfl)) (fun _ _ _ h => h) (Or.inl ⟨by rfl, ?_⟩) ?_ ?_
  rotate_left
  · intro w'
    go_simp
    with_reducible rfl
  rotate_left
  · simp only [Act.put, List.setIfInBounds_toArray, List.set_cons_zero, List.set_cons_succ, i64_w, i32_w]
    rfl
  refine done_ (done_of HT_.out (by kernel_rfl)) ?_
  have hw4 : Kd.C k67 w4 A L.length L := HR4.out
  obtain ⟨A5, d5, hA5, _, hC5⟩ := Kd.R_reads HU4.out
  obtain ⟨A6, d6, hA6, _, hC6⟩ := Kd.R_reads HV4.out
  rw [toL_len] at hA5 hC5
  rw [backL_len] at hA6 hC6
  subst hA5
  subst hA6
  have HC5 := Aside0.mk hC5
  have HC6 := Aside0.mk hC6
  clear hC5 hC6 HU4 HV4 hHeld HT_ HW_ hw4
  have hc4 : w4.cell? ⟨w.heap.size, 3, none⟩ = some (.slice A L.length c) := (blk_cell HX4.out 3).trans rfl
  go_wp2_with fail
  refine (AwakeK.awake_calls w4).mono ?_
  rintro e w5 ⟨rfl, hb5⟩
  have HX5 := Aside0.mk (blk_below HX4.out hb5)
  have HR5 := Aside0.mk (Kd.C_below HR4.out hb5)
  have HB5 := Aside0.mk (below_then HB4.out HB4.out.size hb5)
  have HD5 := Aside0.mk (Kd.C_below HC5.out hb5)
  have HE5 := Aside0.mk (Kd.C_below HC6.out hb5)
  clear hb5 HX4 HR4 HB4 HC5 HC6 hc4
  go_wp2_with fail
  go_loopw [8] (fun v8 wr => ∃ k : Nat, v8 = .int .i64 (k : Int) ∧ k ≤ L.length ∧ Aside0 (Below w5.heap.size w5 wr)) (fun v8 _ => (L.length - (intOf v8)).toNat)
  case atStart => exact ⟨0, rfl, Nat.zero_le _, ⟨Below.refl _ _⟩⟩
  case round =>
    obtain ⟨k, rfl, hk, HBr⟩ := hrel
    rcases Nat.lt_or_ge k L.length with hlt | hge
    · have hlt1 : ((k : Int) < (L.length : Int)) = True := eq_true (by omega)
      obtain ⟨ad, hA, hx0, hx1⟩ := at_T67 HR5.out (k : Int) (by omega) (by omega)
      obtain ⟨ad5, hA5, hy0, hy1, hy2, hy3⟩ := at4 HD5.out (k : Int) (by omega) (by omega)
      obtain ⟨ad6, hA6, hz0, hz1, hz2, hz3⟩ := at4 HE5.out (k : Int) (by omega) (by omega)
      subst hA hA5 hA6
      have hgd : ∀ {a v}, w5.cell? a = some v → wr.cell? a = some v := fun h => (HBr.out.cell (World.block_lt_of_cell? _ _ h)).trans h
      replace hx0 := hgd hx0
      replace hx1 := hgd hx1
      replace hy0 := hgd hy0
      replace hy1 := hgd hy1
      replace hy2 := hgd hy2
      replace hy3 := hgd hy3
      replace hz0 := hgd hz0
      replace hz1 := hgd hz1
      replace hz2 := hgd hz2
      replace hz3 := hgd hz3
      have e5 : rd4 (toL id v L L.length) (k : Int) = ⟨id, (L.getD k z67).f0, k, v⟩ := to_at id v L hlt
      have e6 : rd4 (backL id L L.length) (k : Int) = ⟨4, (L.getD k z67).f0, id, 0⟩ := back_at id L hlt
      rw [e5] at hy0 hy1 hy2 hy3
      rw [e6] at hz0 hz1 hz2 hz3
      rw [Int.toNat_natCast] at hx0 hx1 hy0 hy1 hy2 hy3 hz0 hz1 hz2 hz3
      simp only at hy0 hy1 hy2 hy3 hz0 hz1 hz2 hz3
      have e7 : rd_T67 L (k : Int) = L.getD k z67 := rfl
      rw [e7] at hx0 hx1
      clear e5 e6 e7
      generalize L.getD k z67 = ed at *
      have hcr : wr.cell? ⟨w.heap.size, 1, none⟩ = some (.int .i64 id) := hgd ((blk_cell HX5.out 1).trans rfl)
      clear hgd
      go_wp2_with fail
      go_quiet (fail)
      go_wp2_with fail
      go_roundw
      case rel => exact ⟨k + 1, by go_num, by omega, ⟨pw_below_drewN HBr.out _⟩⟩
      case measure => simp [intOf]; omega
    · have hk1 : k = L.length := by omega
      subst hk1
      have hlt1 : ((L.length : Int) < (L.length : Int)) = False := eq_false (by omega)
      go_wp2_with fail
      go_ret
      exact ⟨by first | rfl | simp, below_then HB5.out HB5.out.size HBr.out⟩
end Go.Proofs.Ytbeefbhoccdicaa.TellLaw
