/- A graph is taken off a reader: walked. -/
import Derived.Test.YtbeefbhoccdicaaRdSpec
import Derived.Test.YtbeefbhoccdicaaSameG
namespace Go.Proofs.Ytbeefbhoccdicaa.TakeG
open Go.RowKit Go.Shelf Go.Proofs.YtbeefbhoccdicaaW.PrintWords Go.Proofs.YtbeefbhoccdicaaW.PrintLast Go.Proofs.YtbeefbhoccdicaaW.PrintMore Go.Proofs.Ytbeefbhoccdicaa.QGraphReads Go.Proofs.Ytbeefbhoccdicaa.WireNum Go.Proofs.Ytbeefbhoccdicaa.WireRead Go.Proofs.Ytbeefbhoccdicaa.Writer Go.Proofs.Ytbeefbhoccdicaa.PutG Go.Proofs.Ytbeefbhoccdicaa.FindG Go.Proofs.Ytbeefbhoccdicaa.EdgesG Go.Proofs.Ytbeefbhoccdicaa.AllG Go.Proofs.Ytbeefbhoccdicaa.CheckG Go.Proofs.Ytbeefbhoccdicaa.EncG Go.Proofs.Ytbeefbhoccdicaa.RdSpec
set_option linter.unusedVariables false
set_option linter.unusedSimpArgs false

/-- Vertices, as long as there is no error. -/
def vertsS (s : ByteArray) : Nat → St → List (Int × Int × List (Int × Int)) → List (Int × Int × List (Int × Int)) × St
  | 0, t, acc => (acc, t)
  | n + 1, t, acc => if t.e = 0 then vertsS s n (vertS s t).2 (acc ++ [(vertS s t).1]) else (acc, t)
def takeS (s : ByteArray) (t : St) : List (Int × Int × List (Int × Int)) × St := vertsS s (cntS s 256 t).1 (cntS s 256 t).2 []
/-- The error at the end: the reader's own, or what checking says. -/
def TakeEnd (l : List S53) (e : Nat) (r : Int) : Prop := (e = 0 ∧ Checks l r) ∨ (e ≠ 0 ∧ r = e)

def T5 : Bool × List (List Nat × List Nat) := (true, [([], []), ([0], [0]), ([], []), ([2], [2]), ([3], [3]), ([1, 4, 3], [1, 4]), ([0, 1, 2, 3, 4, 5], []), ([6, 5, 5, 0, 1, 2, 3, 4, 5], [5, 6])])
def B5 : List Nat := [0, 1, 0, 4, 12, 31, 63, 127]
theorem tab5 : rtab .any (opsOf Try.f26 5) = T5 := by kernel_rfl
theorem bits5 : waitsOk T5.2 B5 = true := by kernel_rfl
theorem info53 : (Try.prog.info? 53).map (fun i => (i.zero, i.size, i.bytes)) = some (some (.agg #[(.int .i64 0), (.int .i64 0), (.slice none 0 0)]), 3, 40) := by kernel_rfl

set_option maxHeartbeats 8000000 in
set_option maxRecDepth 100000 in
theorem take_calls (w0 w : World) (g : Nat) (s : ByteArray) (t : St) (hs : Sz s) (hp : t.p ≤ s.size) (hI : IsS147 w0 w g s t.p t.e) (hB : Below w0.heap.size w0 w) :
    Calls Try.prog 26 #[.pointer (some ⟨g, 0, none⟩)] w fun e w' => ∃ v r, e = .returned (.agg #[v]) ∧ Kd.S k53 53 w' w.heap.size (fun _ => True) v ((takeS s t).1.map v53) ∧ TakeEnd ((takeS s t).1.map v53) (takeS s t).2.e r ∧ IsS147 w0 w' g s (takeS s t).2.p r ∧ Below w0.heap.size w0 w' ∧ KeepBut w w' g none := by
  generalize hQ : takeS s t = Q
  have HQ := Aside0.mk hQ
  clear hQ
  have HS := Aside0.mk hs
  have HL := Aside0.mk hB.size
  have hgl : g < w.heap.size := hI.lt
  generalize hw2 : (w.alloc (.cells #[.slice none 0 0] 24)).alloc (.cells #[.slice none 0 0] 24) = w2
  have hz2 : w2.heap.size = w.heap.size + 2 := by rw [← hw2, World.size_alloc, World.size_alloc]
  have hb2 : Below w.heap.size w w2 := by rw [← hw2]; exact below_alloc (below_alloc (Below.refl _ _) _) _
  have HX1 : Aside0 (w2.heap[w.heap.size]? = some (.cells #[.slice none 0 0] 24 (0, 0))) := ⟨by rw [← hw2]; exact blk_alloc (blk_new w _) _⟩
  have HX2 : Aside0 (w2.heap[w.heap.size + 1]? = some (.cells #[.slice none 0 0] 24 (0, 0))) := ⟨by
    have h := blk_new (w.alloc (.cells #[.slice none 0 0] 24)) (.cells #[.slice none 0 0] 24)
    rw [World.size_alloc, hw2] at h
    exact h⟩
  have HI := Aside0.mk (hI.below hb2)
  have HB := Aside0.mk (below_then hB hB.size hb2)
  have HK := Aside0.mk (KeepBut.of_below hb2 g none)
  clear hI hB hb2
  go_enter Try.func26, Try.ntmps26
  go_wp2_with fail
  have hcc := wire_cnt (k := 21) (by omega) s 256 (by decide) t hs hp
  refine (wire_Reader_Count.calls 21 g s _ _ 256 _ _ _ _ w0 _ HI.out HB.out hcc).mono ?_
  rintro e w3 ⟨rfl, hI3, hB3, hK3⟩
  have HX13 := Aside0.mk (KeepBut.blk hK3 HX1.out (by omega) (by simp))
  have HX23 := Aside0.mk (KeepBut.blk hK3 HX2.out (by omega) (by simp))
  have HI3 := Aside0.mk hI3
  have HB3 := Aside0.mk hB3
  have HK3 := Aside0.mk (HK.out.trans hK3 (.inl rfl))
  clear hI3 hB3 hK3 hcc hw2
  have HQ2 : Aside0 (vertsS s (cntS s 256 t).1 (cntS s 256 t).2 [] = Q) := HQ
  have HP2 := Aside0.mk (cntS_p s 256 t hp)
  have hle := cntS_le s 256 t
  generalize cntS s 256 t = cq at *
  obtain ⟨n0, t0⟩ := cq
  simp only at hle
  go_wp2_with fail
  go_loopw [4] (fun v4 wr => ∃ (n : Nat) (t : St) (acc : List (Int × Int × List (Int × Int))) (u : Value), v4 = .int .i64 (n : Int) ∧ acc.length + n ≤ 256 ∧ Aside0 (vertsS s n t acc = Q) ∧ Aside0 (t.p ≤ s.size) ∧ Aside0 (Kd.S k53 53 wr w.heap.size (fun _ => True) u (acc.map v53)) ∧ Aside0 (wr.heap[w.heap.size]? = some (.cells #[.slice none 0 0] 24 (0, 0))) ∧ Aside0 (wr.heap[w.heap.size + 1]? = some (.cells #[u] 24 (0, 0))) ∧ Aside0 (IsS147 w0 wr g s t.p t.e) ∧ Aside0 (Below w0.heap.size w0 wr) ∧ Aside0 (KeepBut w wr g none)) (fun v4 _ => (intOf v4).toNat)
  case atStart => exact ⟨n0, t0, [], .slice none 0 0, rfl, by simpa using hle, HQ2, HP2, ⟨Kd.S_nil _ _ _ _ _⟩, HX13, HX23, HI3, HB3, HK3⟩
  case round =>
    obtain ⟨n, t1, acc, u, rfl, hle1, HQ1, HP1, HO, HX1r, HX2r, HIr, HBr, HKr⟩ := hrel
    clear HX13 HX23 HI3 HB3 HK3 HQ2 HP2 HX1 HX2 HI HB HK
    rcases n with _ | n
    · have HE : Aside0 ((acc, t1) = Q) := HQ1
      clear HQ1
      go_wp2_with fail
      refine (wire_Reader_Err.calls g s t1.p t1.e _ _ _ _ w0 _ HIr.out HBr.out rfl).mono ?_
      rintro e w5 ⟨rfl, hI5, hB5, hK5⟩
      have HX15 := Aside0.mk (KeepBut.blk hK5 HX1r.out (by omega) (by simp))
      have HX25 := Aside0.mk (KeepBut.blk hK5 HX2r.out (by omega) (by simp))
      have HO5 := Aside0.mk (Kd.S_mono (ok' := fun _ => True) (Kd.S_keep (IsS147.apartS HIr.out HO.out (by decide)) hK5 (fun _ h => h.2)) (fun _ _ => trivial))
      have HI5 := Aside0.mk hI5
      have HB5 := Aside0.mk hB5
      have HK5 := Aside0.mk (HKr.out.trans hK5 (.inl rfl))
      clear hI5 hB5 hK5 HX1r HX2r HO HIr HBr HKr
      generalize hLL : acc.map v53 = L at HO5
      have HLL := Aside0.mk hLL
      clear hLL
      by_cases he : t1.e = 0
      · have hee : ((t1.e : Int) == 0) = true := beq_iff_eq.2 (by omega)
        have HE0 := Aside0.mk he
        clear he
        obtain ⟨A, c, hA, hcl, hC⟩ := Kd.S_reads HO5.out
        subst hA
        have hcell : w5.cell? ⟨w.heap.size + 1, 0, none⟩ = some (.slice A L.length c) := (blk_cell HX25.out 0).trans rfl
        have HC := Aside0.mk hC
        clear hC
        go_wp2_with fail
        refine (check_calls w5 L A c HC.out).mono ?_
        rintro e w6 ⟨⟨r, rfl, hr⟩, hb6⟩
        have HR6 := Aside0.mk hr
        have HX16 := Aside0.mk (blk_below HX15.out hb6)
        have HX26 := Aside0.mk (blk_below HX25.out hb6)
        have HO6 := Aside0.mk (Kd.S_below HO5.out hb6)
        have HI6 := Aside0.mk (HI5.out.below hb6)
        have HB6 := Aside0.mk (below_then HB5.out HB5.out.size hb6)
        have HK6 := Aside0.mk (HK5.out.trans (KeepBut.of_below hb6 g none) (.inl rfl))
        clear hr hb6 HX15 HX25 HO5 HI5 HB5 HK5 hcell HC
        go_wp2_with fail
        refine (wire_Reader_Fail.calls g s t1.p t1.e r s t1.p r w0 _ HI6.out HB6.out (by unfold wire_Reader_Fail.f; rw [if_pos (by have := HE0.out; omega)])).mono ?_
        rintro e w7 ⟨rfl, hI7, hB7, hK7⟩
        have HX17 := Aside0.mk (KeepBut.blk hK7 HX16.out (by omega) (by simp))
        have hx27 := KeepBut.blk hK7 HX26.out (by omega) (by simp)
        have HO7 := Aside0.mk (Kd.S_mono (ok' := fun _ => True) (Kd.S_keep (IsS147.apartS HI6.out HO6.out (by decide)) hK7 (fun _ h => h.2)) (fun _ _ => trivial))
        have HI7 := Aside0.mk hI7
        have HB7 := Aside0.mk hB7
        have HK7 := Aside0.mk (HK6.out.trans hK7 (.inl rfl))
        have hc2 : w7.cell? ⟨w.heap.size + 1, 0, none⟩ = some (.slice A L.length c) := (blk_cell hx27 0).trans rfl
        have hc1 : w7.cell? ⟨w.heap.size, 0, none⟩ = some (.slice none 0 0) := (blk_cell HX17.out 0).trans rfl
        have hf1 := blk_frozen HX17.out 0
        clear hI7 hB7 hK7 hx27 HO6 HI6 HB6 HK6 HX16 HX26
        go_wp2_with fail
        refine bodyPost_ret (results_cell_row rfl _ _ w.heap.size 24 #[.slice A L.length c] (0, 0) _ rfl (blk_put (cs := #[.slice none 0 0]) HX17.out 0 _ rfl) Try.underlying24 rfl (by kernel_rfl)) rfl ?_
        have hq := HE.out
        rw [← hq]
        simp only
        rw [HLL.out]
        refine ⟨_, r, rfl, Kd.S_mono (Kd.S_far (p := ⟨w.heap.size, 0, none⟩) (Kd.S_types HO7.out HX17.out (by decide)) (fun _ hk => hk.2) _) (fun _ _ => trivial), .inl ⟨HE0.out, HR6.out⟩, IsS147.far HI7.out (show g ≠ w.heap.size by omega) _, below_set HB7.out HL.out, keep_far HK7.out (p := ⟨w.heap.size, 0, none⟩) (Nat.le_refl _) _⟩
      · have hee : ((t1.e : Int) == 0) = false := beq_eq_false_iff_ne.2 (by omega)
        have HE0 := Aside0.mk he
        clear he
        obtain ⟨A, c, hA, hcl, hC⟩ := Kd.S_reads HO5.out
        subst hA
        have hc2 : w5.cell? ⟨w.heap.size + 1, 0, none⟩ = some (.slice A L.length c) := (blk_cell HX25.out 0).trans rfl
        have hc1 : w5.cell? ⟨w.heap.size, 0, none⟩ = some (.slice none 0 0) := (blk_cell HX15.out 0).trans rfl
        have hf1 := blk_frozen HX15.out 0
        clear hC
        go_wp2_with fail
        refine bodyPost_ret (results_cell_row rfl _ _ w.heap.size 24 #[.slice A L.length c] (0, 0) _ rfl (blk_put (cs := #[.slice none 0 0]) HX15.out 0 _ rfl) Try.underlying24 rfl (by kernel_rfl)) rfl ?_
        have hq := HE.out
        rw [← hq]
        simp only
        rw [HLL.out]
        refine ⟨_, (t1.e : Int), rfl, Kd.S_mono (Kd.S_far (p := ⟨w.heap.size, 0, none⟩) (Kd.S_types HO5.out HX15.out (by decide)) (fun _ hk => hk.2) _) (fun _ _ => trivial), .inr ⟨HE0.out, rfl⟩, IsS147.far HI5.out (show g ≠ w.heap.size by omega) _, below_set HB5.out HL.out, keep_far HK5.out (p := ⟨w.heap.size, 0, none⟩) (Nat.le_refl _) _⟩
    · have hn1 : decide ((0 : Int) < ((n + 1 : Nat) : Int)) = true := decide_eq_true (by omega)
      go_wp2_with fail
      refine (wire_Reader_Err.calls g s t1.p t1.e _ _ _ _ w0 _ HIr.out HBr.out rfl).mono ?_
      rintro e w4 ⟨rfl, hI4, hB4, hK4⟩
      have HX14 := Aside0.mk (KeepBut.blk hK4 HX1r.out (by omega) (by simp))
      have HX24 := Aside0.mk (KeepBut.blk hK4 HX2r.out (by omega) (by simp))
      have HO4 := Aside0.mk (Kd.S_mono (ok' := fun _ => True) (Kd.S_keep (IsS147.apartS HIr.out HO.out (by decide)) hK4 (fun _ h => h.2)) (fun _ _ => trivial))
      have HI4 := Aside0.mk hI4
      have HB4 := Aside0.mk hB4
      have HK4 := Aside0.mk (HKr.out.trans hK4 (.inl rfl))
      clear hI4 hB4 hK4 HX1r HX2r HO HIr HBr HKr
      by_cases he : t1.e = 0
      · have hee : ((t1.e : Int) == 0) = true := beq_iff_eq.2 (by omega)
        have HQ5 : Aside0 (vertsS s n (vertS s t1).2 (acc ++ [(vertS s t1).1]) = Q) := ⟨by have h := HQ1.out; rw [vertsS, if_pos he] at h; exact h⟩
        have HE0 := Aside0.mk he
        clear he HQ1
        go_wp2_with fail
        have HO5 := Aside0.mk (Kd.S_drew HO4.out)
        have HX15 := Aside0.mk (blk_drew HX14.out)
        have HX25 := Aside0.mk (blk_drew HX24.out)
        have HI5 := Aside0.mk (IsS147.drew HI4.out)
        have HB5 := Aside0.mk (below_drew1 HB4.out)
        have HK5 := Aside0.mk (keep_drew HK4.out)
        clear HO4 HX14 HX24 HI4 HB4 HK4
        refine start_ (n := 8) (S := fun w' => w'.cell? ⟨w.heap.size + 1, 0, none⟩ = some u) (ds := [7]) #[false, false, false, false, false, false, false, false] (by kernel_rfl) rfl rfl ((blk_cell HX25.out 0).trans rfl) (fun hHeld => ?_)
        refine with_tabW tab5 bits5 (fun HT_ HW_ => ?_)
        generalize w4.drew = w5 at HO5 HX15 HX25 HI5 HB5 HK5 hHeld ⊢
        refine pure_ (i := 0) (N := some 16) (v := ?_) (a' := ?_) #[true, false, false, false, false, false, false, false] rfl rfl (any_of HT_.out (by kernel_rfl)) (fun _ _ _ h => h) (Or.inl ⟨by rfl, ?_⟩) ?_ ?_
        rotate_left
        · intro w'
          go_simp
          with_reducible rfl
        rotate_left
        · simp only [Act.put, List.setIfInBounds_toArray, List.set_cons_zero, List.set_cons_succ, i64_w, i32_w]
          rfl
        refine pure_ (i := 2) (N := some 18) (v := ?_) (a' := ?_) #[true, false, true, false, false, false, false, false] rfl rfl (any_of HT_.out (by kernel_rfl)) (fun _ _ _ h => h) (Or.inl ⟨by rfl, ?_⟩) ?_ ?_
        rotate_left
        · intro w'
          go_simp
          with_reducible rfl
        rotate_left
        · simp only [Act.put, List.setIfInBounds_toArray, List.set_cons_zero, List.set_cons_succ, i64_w, i32_w]
          rfl
        refine take_ (i := 1) (N := some 17) (v := ?_) (a' := ?_) #[true, true, true, false, false, false, false, false] rfl rfl (take_ofW HT_.out HW_.out (by kernel_rfl)) (fun _ _ _ h => h) (Or.inl ⟨by rfl, ?_⟩) hHeld ?_ ?_
        rotate_left
        · intro w' s0
          go_simp
          with_reducible rfl
        rotate_left
        · simp only [Act.put, List.setIfInBounds_toArray, List.set_cons_zero, List.set_cons_succ, i64_w, i32_w]
          rfl
        refine one_ (i := 3) (N := some 19) #[true, true, true, true, false, false, false, false] rfl rfl (one_of HT_.out (by kernel_rfl)) (by decide) (fun K hK => ?_)
        refine goes_ Try.func33 (by kernel_rfl) rfl #[.pointer (some ⟨g, 0, none⟩)] (by rfl) rfl rfl (by (try simp only [List.map_toArray, List.map_cons, List.map_nil]); first | done | rfl) ?_
        refine (graph_TakeVertex.calls 4201 g s t1.p t1.e _ _ _ _ _ _ w0 _ HI5.out HB5.out (wire_vert (by omega) s t1 HS.out HP1.out)).mono ?_
        rintro e w6 ⟨v6, rfl, hv6, hI6, hB6, hK6⟩
        refine ⟨_, rfl, ?_⟩
        have hlen6 := vertS_len s t1
        have HP6 := Aside0.mk (vertS_p s t1 HP1.out)
        have hv53 : v53 (vertS s t1).1 = ⟨(vertS s t1).1.1, (vertS s t1).1.2.1, (vertS s t1).1.2.2.map e67⟩ := rfl
        generalize vertS s t1 = vt at *
        obtain ⟨⟨va, vb, vc⟩, t2⟩ := vt
        simp only at hv6 hI6 hB6 hK6 hlen6 hv53 ⊢
        generalize hvc : vc.map e67 = ves at hv6 hv53 ⊢
        have HV53 := Aside0.mk hv53
        clear hvc hv53
        have hV := Kd.R_tight rfl hv6
        obtain ⟨A6, c6, he6⟩ := Kd.R_slice hv6
        subst he6
        have HX16 := Aside0.mk (KeepBut.blk hK6 HX15.out (by omega) (by simp))
        have HX26 := Aside0.mk (KeepBut.blk hK6 HX25.out (by omega) (by simp))
        have HO6 := Aside0.mk (Kd.S_oldK (IsS147.apartS HI5.out HO5.out (by decide)) hK6)
        have HUL := Aside0.mk (Kd.S_lt HO5.out)
        have HVB := Aside0.mk (Kd.R_base hv6)
        have HI6 := Aside0.mk hI6
        have HB6 := Aside0.mk hB6
        have HZ6 := Aside0.mk (show w.heap.size ≤ w5.heap.size from keep_size HK5.out)
        have HZ7 := Aside0.mk (show w5.heap.size ≤ w6.heap.size from keep_size hK6)
        have HK6 := Aside0.mk (HK5.out.trans hK6 (.inl rfl))
        have HV := Aside0.mk (Kd.R_lower hV HZ6.out)
        clear hv6 hI6 hB6 hK6 hV HX15 HX25 HO5 HI5 HB5 HK5
        refine hK.out _ _ ((blk_cell HX26.out 0).trans rfl) (fun hHeld => ?_)
        clear hK K
        refine norm_ (a' := ?_) ?_ ?_
        rotate_left
        · show Act.put _ (some 19) _ = _
          simp only [Act.put, List.setIfInBounds_toArray, List.set_cons_zero, List.set_cons_succ, i64_w, i32_w]
          rfl
        refine one_ (i := 4) (N := some 20) #[true, true, true, true, true, false, false, false] rfl rfl (one_of HT_.out (by kernel_rfl)) (by decide) (fun K hK => ?_)
        refine value_ (w1 := ?_) (v := ?_) (by rfl) rfl ?_ ?_
        rotate_left 2
        · go_simp
          constructor
          · rfl
          · rfl
        refine hK.out _ _ ((blk_cell (blk_alloc HX26.out _) 0).trans rfl) (fun hHeld => ?_)
        clear hK K
        refine norm_ (a' := ?_) ?_ ?_
        rotate_left
        · show Act.put _ (some 20) _ = _
          simp only [Act.put, List.setIfInBounds_toArray, List.set_cons_zero, List.set_cons_succ, i64_w, i32_w]
          rfl
        refine one_ (i := 5) (N := some 21) #[true, true, true, true, true, true, false, false] rfl rfl (one_of HT_.out (by kernel_rfl)) (by decide) (fun K hK => ?_)
        refine Kd.S_append_step k53 (w0 := w6) w.heap.size (by rfl) (.tmp 17) (.tmp 20) 22 53 (.agg #[(.int .i64 0), (.int .i64 0), (.slice none 0 0)]) 40 rfl Try.underlying22 info53 rfl (by decide) (by omega) u (acc.map v53) (⟨va, vb, ves⟩ : S53) [.int .i64 va, .int .i64 vb, .slice A6 ves.length c6] (fun _ => True) (fun k => some k = (Value.slice A6 ves.length c6).ownBlock) rfl rfl ?aP ?aK ?aF ?aO (Below.refl _ _) ?aS ?aL ?_
        case aP => exact k53_mkM _ _ _ (⟨va, vb, ves⟩ : S53) HV.out
        case aK => exact fun k hk => ⟨trivial, fun h => by have h1 := HUL.out k h.symm; have h2 := HVB.out k hk.symm; omega⟩
        case aF => exact fun _ _ => trivial
        case aO => exact Kd.S_mono HO6.out (fun k hk => ⟨trivial, fun h => by have h2 := HVB.out k h.symm; have := hk.2; omega⟩)
        case aS => have h1 := HZ6.out; have h2 := HZ7.out; omega
        case aL => rw [List.length_map]; omega
        intro v7 w7 ho hb hg hat
        have HX17 := Aside0.mk (blk_grown HX16.out hg (Kd.S_ne HO6.out HX16.out (by decide)))
        have HX27 := Aside0.mk (blk_grown HX26.out hg (Kd.S_ne HO6.out HX26.out (by decide)))
        have HI7 := Aside0.mk (IsS147.grown HI6.out hg (IsS147.own_neS HI6.out HO6.out (by decide)))
        have HB7 := Aside0.mk (below_weaken HB6.out HL.out hb)
        have HK7 := Aside0.mk (KeepBut.trans HK6.out (KeepBut.of_grown hg g) (Kd.S_base2 HO6.out))
        have HO7 := Aside0.mk ho
        clear ho hb hg hat HO6 HI6 HB6 HK6 HX16 HX26 HV
        generalize hL7 : acc.map v53 ++ [(⟨va, vb, ves⟩ : S53)] = L7 at HO7
        have HL7 := Aside0.mk hL7
        clear hL7
        obtain ⟨A7, c7, e7⟩ := Kd.S_slice HO7.out
        subst e7
        refine hK.out _ _ ((blk_cell HX27.out 0).trans rfl) (fun hHeld => ?_)
        clear hK K
        refine norm_ (a' := ?_) ?_ ?_
        rotate_left
        · show Act.put _ (some 21) _ = _
          simp only [Act.put, List.setIfInBounds_toArray, List.set_cons_zero, List.set_cons_succ, i64_w, i32_w]
          rfl
        refine pure_ (i := 6) (N := some 22) (v := ?_) (a' := ?_) #[true, true, true, true, true, true, true, false] rfl rfl (any_of HT_.out (by kernel_rfl)) (fun _ _ _ h => h) (Or.inl ⟨by rfl, ?_⟩) ?_ ?_
        rotate_left
        · intro w'
          go_simp
          with_reducible rfl
        rotate_left
        · simp only [Act.put, List.setIfInBounds_toArray, List.set_cons_zero, List.set_cons_succ, i64_w, i32_w]
          rfl
        refine last_ (i := 7) (N := none) #[true, true, true, true, true, true, true, true] rfl rfl (one_of HT_.out (by kernel_rfl)) (by decide) (fun K hK => ?_)
        have hs26 : w7.cell? ⟨w.heap.size + 1, 0, none⟩ = some u := (blk_cell HX27.out 0).trans rfl
        have hfs26 := blk_frozen HX27.out 0
        refine skip_ (w1 := ?_) (by rfl) rfl ?_ ?_
        rotate_left
        · go_simp
          rfl
        refine hK.out _ _ ?_
        clear hK K
        refine done_ (done_of HT_.out (by kernel_rfl)) ?_
        go_wp2_with fail
        go_roundw
        case rel =>
          refine ⟨n, t2, acc ++ [(va, vb, vc)], .slice A7 L7.length c7, by go_num, by rw [List.length_append]; simp only [List.length_cons, List.length_nil]; omega, HQ5, HP6, ⟨?_⟩, ⟨blk_far HX17.out (show w.heap.size ≠ w.heap.size + 1 by omega) _⟩, ⟨blk_put (cs := #[u]) HX27.out 0 _ rfl⟩, ⟨IsS147.far HI7.out (show g ≠ w.heap.size + 1 by omega) _⟩, ⟨below_set HB7.out (show w0.heap.size ≤ w.heap.size + 1 by have := HL.out; omega)⟩, ⟨keep_far HK7.out (p := ⟨w.heap.size + 1, 0, none⟩) (show w.heap.size ≤ w.heap.size + 1 by omega) _⟩⟩
          have hm : (acc ++ [(va, vb, vc)]).map v53 = L7 := by rw [List.map_append, ← HL7.out, List.map_cons, List.map_nil, HV53.out]
          rw [hm]
          exact Kd.S_mono (Kd.S_far (p := ⟨w.heap.size + 1, 0, none⟩) (Kd.S_types HO7.out HX27.out (by decide)) (fun _ hk => hk.2) _) (fun _ _ => trivial)
        case measure => simp [intOf]
      · have hee : ((t1.e : Int) == 0) = false := beq_eq_false_iff_ne.2 (by omega)
        have HE : Aside0 ((acc, t1) = Q) := ⟨by have h := HQ1.out; rw [vertsS, if_neg he] at h; exact h⟩
        clear he HQ1
        go_wp2_with fail
        clear hee
        refine (wire_Reader_Err.calls g s t1.p t1.e _ _ _ _ w0 _ HI4.out HB4.out rfl).mono ?_
        rintro e w5 ⟨rfl, hI5, hB5, hK5⟩
        have HX15 := Aside0.mk (KeepBut.blk hK5 HX14.out (by omega) (by simp))
        have HX25 := Aside0.mk (KeepBut.blk hK5 HX24.out (by omega) (by simp))
        have HO5 := Aside0.mk (Kd.S_mono (ok' := fun _ => True) (Kd.S_keep (IsS147.apartS HI4.out HO4.out (by decide)) hK5 (fun _ h => h.2)) (fun _ _ => trivial))
        have HI5 := Aside0.mk hI5
        have HB5 := Aside0.mk hB5
        have HK5 := Aside0.mk (HK4.out.trans hK5 (.inl rfl))
        clear hI5 hB5 hK5 HX14 HX24 HO4 HI4 HB4 HK4
        generalize hLL : acc.map v53 = L at HO5
        have HLL := Aside0.mk hLL
        clear hLL
        by_cases he : t1.e = 0
        · have hee : ((t1.e : Int) == 0) = true := beq_iff_eq.2 (by omega)
          have HE0 := Aside0.mk he
          clear he
          obtain ⟨A, c, hA, hcl, hC⟩ := Kd.S_reads HO5.out
          subst hA
          have hcell : w5.cell? ⟨w.heap.size + 1, 0, none⟩ = some (.slice A L.length c) := (blk_cell HX25.out 0).trans rfl
          have HC := Aside0.mk hC
          clear hC
          go_wp2_with fail
          refine (check_calls w5 L A c HC.out).mono ?_
          rintro e w6 ⟨⟨r, rfl, hr⟩, hb6⟩
          have HR6 := Aside0.mk hr
          have HX16 := Aside0.mk (blk_below HX15.out hb6)
          have HX26 := Aside0.mk (blk_below HX25.out hb6)
          have HO6 := Aside0.mk (Kd.S_below HO5.out hb6)
          have HI6 := Aside0.mk (HI5.out.below hb6)
          have HB6 := Aside0.mk (below_then HB5.out HB5.out.size hb6)
          have HK6 := Aside0.mk (HK5.out.trans (KeepBut.of_below hb6 g none) (.inl rfl))
          clear hr hb6 HX15 HX25 HO5 HI5 HB5 HK5 hcell HC
          go_wp2_with fail
          refine (wire_Reader_Fail.calls g s t1.p t1.e r s t1.p r w0 _ HI6.out HB6.out (by unfold wire_Reader_Fail.f; rw [if_pos (by have := HE0.out; omega)])).mono ?_
          rintro e w7 ⟨rfl, hI7, hB7, hK7⟩
          have HX17 := Aside0.mk (KeepBut.blk hK7 HX16.out (by omega) (by simp))
          have hx27 := KeepBut.blk hK7 HX26.out (by omega) (by simp)
          have HO7 := Aside0.mk (Kd.S_mono (ok' := fun _ => True) (Kd.S_keep (IsS147.apartS HI6.out HO6.out (by decide)) hK7 (fun _ h => h.2)) (fun _ _ => trivial))
          have HI7 := Aside0.mk hI7
          have HB7 := Aside0.mk hB7
          have HK7 := Aside0.mk (HK6.out.trans hK7 (.inl rfl))
          have hc2 : w7.cell? ⟨w.heap.size + 1, 0, none⟩ = some (.slice A L.length c) := (blk_cell hx27 0).trans rfl
          have hc1 : w7.cell? ⟨w.heap.size, 0, none⟩ = some (.slice none 0 0) := (blk_cell HX17.out 0).trans rfl
          have hf1 := blk_frozen HX17.out 0
          clear hI7 hB7 hK7 hx27 HO6 HI6 HB6 HK6 HX16 HX26
          go_wp2_with fail
          refine bodyPost_ret (results_cell_row rfl _ _ w.heap.size 24 #[.slice A L.length c] (0, 0) _ rfl (blk_put (cs := #[.slice none 0 0]) HX17.out 0 _ rfl) Try.underlying24 rfl (by kernel_rfl)) rfl ?_
          have hq := HE.out
          rw [← hq]
          simp only
          rw [HLL.out]
          refine ⟨_, r, rfl, Kd.S_mono (Kd.S_far (p := ⟨w.heap.size, 0, none⟩) (Kd.S_types HO7.out HX17.out (by decide)) (fun _ hk => hk.2) _) (fun _ _ => trivial), .inl ⟨HE0.out, HR6.out⟩, IsS147.far HI7.out (show g ≠ w.heap.size by omega) _, below_set HB7.out HL.out, keep_far HK7.out (p := ⟨w.heap.size, 0, none⟩) (Nat.le_refl _) _⟩
        · have hee : ((t1.e : Int) == 0) = false := beq_eq_false_iff_ne.2 (by omega)
          have HE0 := Aside0.mk he
          clear he
          obtain ⟨A, c, hA, hcl, hC⟩ := Kd.S_reads HO5.out
          subst hA
          have hc2 : w5.cell? ⟨w.heap.size + 1, 0, none⟩ = some (.slice A L.length c) := (blk_cell HX25.out 0).trans rfl
          have hc1 : w5.cell? ⟨w.heap.size, 0, none⟩ = some (.slice none 0 0) := (blk_cell HX15.out 0).trans rfl
          have hf1 := blk_frozen HX15.out 0
          clear hC
          go_wp2_with fail
          refine bodyPost_ret (results_cell_row rfl _ _ w.heap.size 24 #[.slice A L.length c] (0, 0) _ rfl (blk_put (cs := #[.slice none 0 0]) HX15.out 0 _ rfl) Try.underlying24 rfl (by kernel_rfl)) rfl ?_
          have hq := HE.out
          rw [← hq]
          simp only
          rw [HLL.out]
          refine ⟨_, (t1.e : Int), rfl, Kd.S_mono (Kd.S_far (p := ⟨w.heap.size, 0, none⟩) (Kd.S_types HO5.out HX15.out (by decide)) (fun _ hk => hk.2) _) (fun _ _ => trivial), .inr ⟨HE0.out, rfl⟩, IsS147.far HI5.out (show g ≠ w.heap.size by omega) _, below_set HB5.out HL.out, keep_far HK5.out (p := ⟨w.heap.size, 0, none⟩) (Nat.le_refl _) _⟩
end Go.Proofs.Ytbeefbhoccdicaa.TakeG
