/- What a client asks for, and what it is told, put whole: walked. -/
import Derived.Test.YtbeefbhoccdicaaPutC
namespace Go.Proofs.Ytbeefbhoccdicaa.PutT
open Go.RowKit Go.Proofs.YtbeefbhoccdicaaW.PrintWords Go.Proofs.YtbeefbhoccdicaaW.PrintLast Go.Proofs.YtbeefbhoccdicaaW.PrintMore Go.Proofs.Ytbeefbhoccdicaa.QGraphReads Go.Proofs.Ytbeefbhoccdicaa.PlainV Go.Proofs.Ytbeefbhoccdicaa.WireNum Go.Proofs.Ytbeefbhoccdicaa.WireRead Go.Proofs.Ytbeefbhoccdicaa.Writer Go.Proofs.Ytbeefbhoccdicaa.RdSpec Go.Proofs.Ytbeefbhoccdicaa.RdC Go.Proofs.Ytbeefbhoccdicaa.TakeA Go.Proofs.Ytbeefbhoccdicaa.TakeT Go.Proofs.Ytbeefbhoccdicaa.PutC
set_option linter.unusedVariables false
set_option linter.unusedSimpArgs false

set_option maxHeartbeats 4000000 in
set_option maxRecDepth 100000 in
theorem encode_zero (w : World) : Calls Try.prog 172 #[.agg #[.int .i64 0, .int .i64 0, .int .i64 0, .slice none 0 0]] w fun e w' => e = .returned (.string oz) ∧ Below w.heap.size w w' := by
  go_enter Try.func172, Try.ntmps172
  go_wp2_with fail
  have HB1 := Aside0.mk (below_alloc (Below.refl w.heap.size w) (.cells #[.int .i64 0, .int .i64 0, .int .i64 0, .slice none 0 0] 120))
  have HX1 := Aside0.mk (blk_new w (.cells #[.int .i64 0, .int .i64 0, .int .i64 0, .slice none 0 0] 120))
  generalize w.alloc (.cells #[.int .i64 0, .int .i64 0, .int .i64 0, .slice none 0 0] 120) = w1 at HB1 HX1 ⊢
  refine (new_wt w w1 HB1.out).mono ?_
  rintro e w2 ⟨g, rfl, h2, hB2, hK2⟩
  have H2 := Aside0.mk h2
  have HB2 := Aside0.mk hB2
  have HX2 := Aside0.mk (hK2 _ _ _ (by decide) (by decide) HX1.out)
  have hc0 : w2.cell? ⟨w.heap.size, 0, none⟩ = some (.int .i64 0) := (blk_cell HX2.out 0).trans rfl
  clear h2 hB2 hK2
  go_wp2_with fail
  refine (cnt_wt w w2 g _ 0 H2.out HB2.out (by omega) (by simp [vb])).mono ?_
  rintro e w3 ⟨rfl, h2, hB2, hK2⟩
  have H3 := Aside0.mk h2
  have HB3 := Aside0.mk hB2
  have HX3 := Aside0.mk (hK2 _ _ _ (by decide) (by decide) HX2.out)
  have hc1 : w3.cell? ⟨w.heap.size, 1, none⟩ = some (.int .i64 0) := (blk_cell HX3.out 1).trans rfl
  clear h2 hB2 hK2 hc0
  go_wp2_with fail
  refine (cnt_wt w w3 g _ 0 H3.out HB3.out (by omega) (by simp [vb])).mono ?_
  rintro e w4 ⟨rfl, h2, hB2, hK2⟩
  have H4 := Aside0.mk h2
  have HB4 := Aside0.mk hB2
  have HX4 := Aside0.mk (hK2 _ _ _ (by decide) (by decide) HX3.out)
  have hc2 : w4.cell? ⟨w.heap.size, 2, none⟩ = some (.int .i64 0) := (blk_cell HX4.out 2).trans rfl
  clear h2 hB2 hK2 hc1
  go_wp2_with fail
  refine (cnt_wt w w4 g _ 0 H4.out HB4.out (by omega) (by simp [vb])).mono ?_
  rintro e w5 ⟨rfl, h2, hB2, hK2⟩
  have H5 := Aside0.mk h2
  have HB5 := Aside0.mk hB2
  have HX5 := Aside0.mk (hK2 _ _ _ (by decide) (by decide) HX4.out)
  have hc3 : w5.cell? ⟨w.heap.size, 3, none⟩ = some (.slice none 0 0) := (blk_cell HX5.out 3).trans rfl
  clear h2 hB2 hK2 hc2
  go_wp2_with fail
  refine (cnt_wt w w5 g _ 0 H5.out HB5.out (by omega) (by simp [vb])).mono ?_
  rintro e w6 ⟨rfl, h2, hB2, hK2⟩
  have H6 := Aside0.mk h2
  have HB6 := Aside0.mk hB2
  have HX6 := Aside0.mk (hK2 _ _ _ (by decide) (by decide) HX5.out)
  have hc4 : w6.cell? ⟨w.heap.size, 3, none⟩ = some (.slice none 0 0) := (blk_cell HX6.out 3).trans rfl
  clear h2 hB2 hK2 hc3
  go_wp2_with fail
  go_loopw [27] (fun v27 wx => v27 = .int .i64 0 ∧ w6 = wx) (fun _ _ => 0)
  case atStart => exact ⟨rfl, rfl⟩
  case round =>
    obtain ⟨rfl, rfl⟩ := hrel
    clear hc4
    go_wp2_with fail
    refine (all_wt w w6 g _ H6.out).mono ?_
    rintro e w7 ⟨⟨b, rfl, hb⟩, rfl⟩
    have HBB := Aside0.mk (show b = oz by
      apply bs_inj
      rw [hb]
      simp [vb, bs, oz])
    clear hb
    go_wp2_with fail
    go_ret
    exact ⟨by rw [HBB.out]; rfl, HB6.out⟩

set_option maxHeartbeats 4000000 in
set_option maxRecDepth 100000 in
theorem putAsk_calls (w0 w : World) (g : Nat) (k : Nat) (ses : Int) (seq id : Nat) (x : ByteArray) (l : List Nat) (h : Wt w0 w g l) (hB : Below w0.heap.size w0 w) (hk : k ≤ 3) (hses : In ses) (hseq : seq ≤ 2147483647) (hid : id ≤ 2147483647) (hl : l.length + x.size ≤ 140737488300000) :
    Calls Try.prog 134 #[.pointer (some ⟨g, 0, none⟩), .agg (askC k ses seq id x)] w fun e w' => e = .returned (.tuple #[]) ∧ Wt w0 w' g (l ++ bA k ses seq id x) ∧ Below w0.heap.size w0 w' ∧ Keeps w w' := by
  have H := Aside0.mk h
  have HB := Aside0.mk hB
  clear h hB
  unfold askC
  go_enter Try.func134, Try.ntmps134
  go_wp2_with fail
  have H1 := Aside0.mk (H.out.below (below_alloc (Below.refl w.heap.size w) (.cells #[.int .i64 (k : Int), .int .i64 ses, .int .i64 (seq : Int), .string x, .int .i64 (id : Int)] 179)))
  have HB1 := Aside0.mk (below_alloc HB.out (.cells #[.int .i64 (k : Int), .int .i64 ses, .int .i64 (seq : Int), .string x, .int .i64 (id : Int)] 179))
  have HK1 := Aside0.mk (Keeps.alloc w (.cells #[.int .i64 (k : Int), .int .i64 ses, .int .i64 (seq : Int), .string x, .int .i64 (id : Int)] 179))
  have HX1 := Aside0.mk (blk_new w (.cells #[.int .i64 (k : Int), .int .i64 ses, .int .i64 (seq : Int), .string x, .int .i64 (id : Int)] 179))
  generalize w.alloc (.cells #[.int .i64 (k : Int), .int .i64 ses, .int .i64 (seq : Int), .string x, .int .i64 (id : Int)] 179) = w1 at H1 HB1 HK1 HX1 ⊢
  clear H HB
  have hc1_0 : w1.cell? ⟨w.heap.size, 0, none⟩ = some (.int .i64 (k : Int)) := (blk_cell HX1.out 0).trans rfl
  go_wp2_with fail
  refine (cnt_wt w0 w1 g _ k H1.out HB1.out (by omega) (by omega)).mono ?_
  rintro e w2 ⟨rfl, h2, hB2, hK2⟩
  have H2 := Aside0.mk h2
  have HB2 := Aside0.mk hB2
  have HK2 := Aside0.mk (HK1.out.trans hK2)
  have HX2 := Aside0.mk (hK2 _ _ _ (by decide) (by decide) HX1.out)
  clear h2 hB2 hK2
  clear hc1_0
  have hc2_1 : w2.cell? ⟨w.heap.size, 1, none⟩ = some (.int .i64 ses) := (blk_cell HX2.out 1).trans rfl
  go_wp2_with fail
  refine (sgn_wt w0 w2 g _ ses H2.out HB2.out hses (by have v1 := vb_length 10 k; have v2 := vb_length 10 (foldZ ses).toNat; have v3 := vb_length 10 seq; have v4 := vb_length 10 id; simp only [List.length_append, lS, List.flatMap_cons, List.flatMap_nil, List.length_nil]; omega)).mono ?_
  rintro e w3 ⟨rfl, h2, hB2, hK2⟩
  have H3 := Aside0.mk h2
  have HB3 := Aside0.mk hB2
  have HK3 := Aside0.mk (HK2.out.trans hK2)
  have HX3 := Aside0.mk (hK2 _ _ _ (by decide) (by decide) HX2.out)
  clear h2 hB2 hK2
  clear hc2_1
  have hc3_2 : w3.cell? ⟨w.heap.size, 2, none⟩ = some (.int .i64 (seq : Int)) := (blk_cell HX3.out 2).trans rfl
  have hc3_4 : w3.cell? ⟨w.heap.size, 4, none⟩ = some (.int .i64 (id : Int)) := (blk_cell HX3.out 4).trans rfl
  go_wp2_with fail
  have H4 := Aside0.mk (H3.out.below (below_alloc (Below.refl w3.heap.size w3) (.cells #[.int .i64 (seq : Int), .int .i64 (id : Int)] 3)))
  have HB4 := Aside0.mk (below_alloc HB3.out (.cells #[.int .i64 (seq : Int), .int .i64 (id : Int)] 3))
  have HK4 := Aside0.mk (HK3.out.trans (Keeps.alloc w3 (.cells #[.int .i64 (seq : Int), .int .i64 (id : Int)] 3)))
  have HX4 := Aside0.mk (blk_alloc HX3.out (.cells #[.int .i64 (seq : Int), .int .i64 (id : Int)] 3))
  have HZ4 := Aside0.mk (blk_new w3 (.cells #[.int .i64 (seq : Int), .int .i64 (id : Int)] 3))
  generalize w3.alloc (.cells #[.int .i64 (seq : Int), .int .i64 (id : Int)] 3) = w4 at H4 HB4 HK4 HX4 HZ4 ⊢
  refine (putCounts_calls w0 w4 g w3.heap.size _ [seq, id] H4.out HB4.out (by intro n hn; simp only [List.mem_cons, List.not_mem_nil, or_false] at hn; omega) (by simp) (by have v1 := vb_length 10 k; have v2 := vb_length 10 (foldZ ses).toNat; have v3 := vb_length 10 seq; have v4 := vb_length 10 id; simp only [List.length_append, lS, List.flatMap_cons, List.flatMap_nil, List.length_nil]; omega) HZ4.out).mono ?_
  rintro e w5 ⟨rfl, h2, hB2, hK2⟩
  have H5 := Aside0.mk h2
  have HB5 := Aside0.mk hB2
  have HK5 := Aside0.mk (HK4.out.trans hK2)
  have HX5 := Aside0.mk (hK2 _ _ _ (by decide) (by decide) HX4.out)
  clear h2 hB2 hK2
  clear hc3_2 hc3_4
  have hc5_3 : w5.cell? ⟨w.heap.size, 3, none⟩ = some (.string x) := (blk_cell HX5.out 3).trans rfl
  go_wp2_with fail
  refine (txt_wt w0 w5 g _ x H5.out HB5.out (by have v1 := vb_length 10 k; have v2 := vb_length 10 (foldZ ses).toNat; have v3 := vb_length 10 seq; have v4 := vb_length 10 id; simp only [List.length_append, lS, List.flatMap_cons, List.flatMap_nil, List.length_nil]; omega)).mono ?_
  rintro e w6 ⟨rfl, h2, hB2, hK2⟩
  have H6 := Aside0.mk h2
  have HB6 := Aside0.mk hB2
  have HK6 := Aside0.mk (HK5.out.trans hK2)
  have HX6 := Aside0.mk (hK2 _ _ _ (by decide) (by decide) HX5.out)
  clear h2 hB2 hK2
  clear hc5_3
  go_wp2_with fail
  go_end0
  refine ⟨rfl, ?_, HB6.out, HK6.out⟩
  have h := H6.out
  simp only [List.append_assoc] at h
  exact h

set_option maxHeartbeats 4000000 in
set_option maxRecDepth 100000 in
theorem putTold_calls (w0 w : World) (g : Nat) (k : Nat) (ses : Int) (seq er rid sid st step ep : Nat) (l : List Nat) (h : Wt w0 w g l) (hB : Below w0.heap.size w0 w) (hk : k ≤ 3) (hses : In ses)
    (hseq : seq ≤ 2147483647) (her : er ≤ 2147483647) (hrid : rid ≤ 2147483647) (hsid : sid ≤ 2147483647) (hst : st ≤ 2147483647) (hstep : step ≤ 2147483647) (hep : ep ≤ 2147483647) (hl : l.length ≤ 140737488300000) :
    Calls Try.prog 135 #[.pointer (some ⟨g, 0, none⟩), .agg (toldC k ses seq er rid sid st step ep (.slice none 0 0))] w fun e w' => e = .returned (.tuple #[]) ∧ Wt w0 w' g (l ++ bT k ses seq er rid sid st step ep) ∧ Below w0.heap.size w0 w' ∧ Keeps w w' := by
  have H := Aside0.mk h
  have HB := Aside0.mk hB
  clear h hB
  unfold toldC
  go_enter Try.func135, Try.ntmps135
  go_wp2_with fail
  have H1 := Aside0.mk (H.out.below (below_alloc (Below.refl w.heap.size w) (.cells #[.int .i64 (k : Int), .int .i64 ses, .int .i64 (seq : Int), .int .i64 (er : Int), .int .i64 (rid : Int), .int .i64 (sid : Int), .int .i64 (st : Int), .int .i64 (step : Int), .int .i64 (ep : Int), .int .i64 0, .int .i64 0, .int .i64 0, .slice none 0 0] 126)))
  have HB1 := Aside0.mk (below_alloc HB.out (.cells #[.int .i64 (k : Int), .int .i64 ses, .int .i64 (seq : Int), .int .i64 (er : Int), .int .i64 (rid : Int), .int .i64 (sid : Int), .int .i64 (st : Int), .int .i64 (step : Int), .int .i64 (ep : Int), .int .i64 0, .int .i64 0, .int .i64 0, .slice none 0 0] 126))
  have HK1 := Aside0.mk (Keeps.alloc w (.cells #[.int .i64 (k : Int), .int .i64 ses, .int .i64 (seq : Int), .int .i64 (er : Int), .int .i64 (rid : Int), .int .i64 (sid : Int), .int .i64 (st : Int), .int .i64 (step : Int), .int .i64 (ep : Int), .int .i64 0, .int .i64 0, .int .i64 0, .slice none 0 0] 126))
  have HX1 := Aside0.mk (blk_new w (.cells #[.int .i64 (k : Int), .int .i64 ses, .int .i64 (seq : Int), .int .i64 (er : Int), .int .i64 (rid : Int), .int .i64 (sid : Int), .int .i64 (st : Int), .int .i64 (step : Int), .int .i64 (ep : Int), .int .i64 0, .int .i64 0, .int .i64 0, .slice none 0 0] 126))
  generalize w.alloc (.cells #[.int .i64 (k : Int), .int .i64 ses, .int .i64 (seq : Int), .int .i64 (er : Int), .int .i64 (rid : Int), .int .i64 (sid : Int), .int .i64 (st : Int), .int .i64 (step : Int), .int .i64 (ep : Int), .int .i64 0, .int .i64 0, .int .i64 0, .slice none 0 0] 126) = w1 at H1 HB1 HK1 HX1 ⊢
  clear H HB
  have hc1_0 : w1.cell? ⟨w.heap.size, 0, none⟩ = some (.int .i64 (k : Int)) := (blk_cell HX1.out 0).trans rfl
  go_wp2_with fail
  refine (cnt_wt w0 w1 g _ k H1.out HB1.out (by omega) (by omega)).mono ?_
  rintro e w2 ⟨rfl, h2, hB2, hK2⟩
  have H2 := Aside0.mk h2
  have HB2 := Aside0.mk hB2
  have HK2 := Aside0.mk (HK1.out.trans hK2)
  have HX2 := Aside0.mk (hK2 _ _ _ (by decide) (by decide) HX1.out)
  clear h2 hB2 hK2
  clear hc1_0
  have hc2_1 : w2.cell? ⟨w.heap.size, 1, none⟩ = some (.int .i64 ses) := (blk_cell HX2.out 1).trans rfl
  go_wp2_with fail
  refine (sgn_wt w0 w2 g _ ses H2.out HB2.out hses (by have v1 := vb_length 10 k; have v2 := vb_length 10 (foldZ ses).toNat; have useq := vb_length 10 seq; have uer := vb_length 10 er; have urid := vb_length 10 rid; have usid := vb_length 10 sid; have ust := vb_length 10 st; have ustep := vb_length 10 step; have uep := vb_length 10 ep; simp only [List.length_append, lS, List.flatMap_cons, List.flatMap_nil, List.length_nil]; omega)).mono ?_
  rintro e w3 ⟨rfl, h2, hB2, hK2⟩
  have H3 := Aside0.mk h2
  have HB3 := Aside0.mk hB2
  have HK3 := Aside0.mk (HK2.out.trans hK2)
  have HX3 := Aside0.mk (hK2 _ _ _ (by decide) (by decide) HX2.out)
  clear h2 hB2 hK2
  clear hc2_1
  have hc3_2 : w3.cell? ⟨w.heap.size, 2, none⟩ = some (.int .i64 (seq : Int)) := (blk_cell HX3.out 2).trans rfl
  have hc3_3 : w3.cell? ⟨w.heap.size, 3, none⟩ = some (.int .i64 (er : Int)) := (blk_cell HX3.out 3).trans rfl
  have hc3_4 : w3.cell? ⟨w.heap.size, 4, none⟩ = some (.int .i64 (rid : Int)) := (blk_cell HX3.out 4).trans rfl
  have hc3_5 : w3.cell? ⟨w.heap.size, 5, none⟩ = some (.int .i64 (sid : Int)) := (blk_cell HX3.out 5).trans rfl
  have hc3_6 : w3.cell? ⟨w.heap.size, 6, none⟩ = some (.int .i64 (st : Int)) := (blk_cell HX3.out 6).trans rfl
  have hc3_7 : w3.cell? ⟨w.heap.size, 7, none⟩ = some (.int .i64 (step : Int)) := (blk_cell HX3.out 7).trans rfl
  have hc3_8 : w3.cell? ⟨w.heap.size, 8, none⟩ = some (.int .i64 (ep : Int)) := (blk_cell HX3.out 8).trans rfl
  go_wp2_with fail
  have H4 := Aside0.mk (H3.out.below (below_alloc (Below.refl w3.heap.size w3) (.cells #[.int .i64 (seq : Int), .int .i64 (er : Int), .int .i64 (rid : Int), .int .i64 (sid : Int), .int .i64 (st : Int), .int .i64 (step : Int), .int .i64 (ep : Int)] 3)))
  have HB4 := Aside0.mk (below_alloc HB3.out (.cells #[.int .i64 (seq : Int), .int .i64 (er : Int), .int .i64 (rid : Int), .int .i64 (sid : Int), .int .i64 (st : Int), .int .i64 (step : Int), .int .i64 (ep : Int)] 3))
  have HK4 := Aside0.mk (HK3.out.trans (Keeps.alloc w3 (.cells #[.int .i64 (seq : Int), .int .i64 (er : Int), .int .i64 (rid : Int), .int .i64 (sid : Int), .int .i64 (st : Int), .int .i64 (step : Int), .int .i64 (ep : Int)] 3)))
  have HX4 := Aside0.mk (blk_alloc HX3.out (.cells #[.int .i64 (seq : Int), .int .i64 (er : Int), .int .i64 (rid : Int), .int .i64 (sid : Int), .int .i64 (st : Int), .int .i64 (step : Int), .int .i64 (ep : Int)] 3))
  have HZ4 := Aside0.mk (blk_new w3 (.cells #[.int .i64 (seq : Int), .int .i64 (er : Int), .int .i64 (rid : Int), .int .i64 (sid : Int), .int .i64 (st : Int), .int .i64 (step : Int), .int .i64 (ep : Int)] 3))
  generalize w3.alloc (.cells #[.int .i64 (seq : Int), .int .i64 (er : Int), .int .i64 (rid : Int), .int .i64 (sid : Int), .int .i64 (st : Int), .int .i64 (step : Int), .int .i64 (ep : Int)] 3) = w4 at H4 HB4 HK4 HX4 HZ4 ⊢
  refine (putCounts_calls w0 w4 g w3.heap.size _ [seq, er, rid, sid, st, step, ep] H4.out HB4.out (by intro n hn; simp only [List.mem_cons, List.not_mem_nil, or_false] at hn; omega) (by simp) (by have v1 := vb_length 10 k; have v2 := vb_length 10 (foldZ ses).toNat; have useq := vb_length 10 seq; have uer := vb_length 10 er; have urid := vb_length 10 rid; have usid := vb_length 10 sid; have ust := vb_length 10 st; have ustep := vb_length 10 step; have uep := vb_length 10 ep; simp only [List.length_append, lS, List.flatMap_cons, List.flatMap_nil, List.length_nil]; omega) HZ4.out).mono ?_
  rintro e w5 ⟨rfl, h2, hB2, hK2⟩
  have H5 := Aside0.mk h2
  have HB5 := Aside0.mk hB2
  have HK5 := Aside0.mk (HK4.out.trans hK2)
  have HX5 := Aside0.mk (hK2 _ _ _ (by decide) (by decide) HX4.out)
  clear h2 hB2 hK2
  clear hc3_2 hc3_3 hc3_4 hc3_5 hc3_6 hc3_7 hc3_8
  have hc5_9 : w5.cell? ⟨w.heap.size, 9, none⟩ = some (.int .i64 0) := (blk_cell HX5.out 9).trans rfl
  have hc5_10 : w5.cell? ⟨w.heap.size, 10, none⟩ = some (.int .i64 0) := (blk_cell HX5.out 10).trans rfl
  have hc5_11 : w5.cell? ⟨w.heap.size, 11, none⟩ = some (.int .i64 0) := (blk_cell HX5.out 11).trans rfl
  have hc5_12 : w5.cell? ⟨w.heap.size, 12, none⟩ = some (.slice none 0 0) := (blk_cell HX5.out 12).trans rfl
  go_wp2_with fail
  refine (encode_zero w5).mono ?_
  rintro e w6 ⟨rfl, hb6⟩
  have H6 := Aside0.mk (H5.out.below hb6)
  have HB6 := Aside0.mk (below_then HB5.out HB5.out.size hb6)
  have HK6 := Aside0.mk (HK5.out.trans (Keeps.below hb6))
  have HX6 := Aside0.mk (blk_below HX5.out hb6)
  clear hb6
  clear hc5_9 hc5_10 hc5_11 hc5_12
  go_wp2_with fail
  refine (txt_wt w0 w6 g _ oz H6.out HB6.out (by have ho : oz.size = 4 := rfl; have v1 := vb_length 10 k; have v2 := vb_length 10 (foldZ ses).toNat; have useq := vb_length 10 seq; have uer := vb_length 10 er; have urid := vb_length 10 rid; have usid := vb_length 10 sid; have ust := vb_length 10 st; have ustep := vb_length 10 step; have uep := vb_length 10 ep; simp only [List.length_append, lS, List.flatMap_cons, List.flatMap_nil, List.length_nil]; omega)).mono ?_
  rintro e w7 ⟨rfl, h2, hB2, hK2⟩
  have H7 := Aside0.mk h2
  have HB7 := Aside0.mk hB2
  have HK7 := Aside0.mk (HK6.out.trans hK2)
  have HX7 := Aside0.mk (hK2 _ _ _ (by decide) (by decide) HX6.out)
  clear h2 hB2 hK2
  go_wp2_with fail
  go_end0
  refine ⟨rfl, ?_, HB7.out, HK7.out⟩
  have h := H7.out
  simp only [List.append_assoc] at h
  unfold bT
  exact h
end Go.Proofs.Ytbeefbhoccdicaa.PutT
