/- GraphVertices: the law's own code, walked. -/
import Derived.Test.YtbeefbhoccdicaaRefSpec
namespace Go.Proofs.Ytbeefbhoccdicaa.VertLaw
open Go.RowKit Go.Shelf Go.Proofs.YtbeefbhoccdicaaW.PrintWords Go.Proofs.YtbeefbhoccdicaaW.PrintLast Go.Proofs.YtbeefbhoccdicaaW.PrintMore Go.Proofs.Ytbeefbhoccdicaa.QGraphReads Go.Proofs.Ytbeefbhoccdicaa.PlainV Go.Proofs.Ytbeefbhoccdicaa.WireNum Go.Proofs.Ytbeefbhoccdicaa.WireRead Go.Proofs.Ytbeefbhoccdicaa.Writer Go.Proofs.Ytbeefbhoccdicaa.PutG Go.Proofs.Ytbeefbhoccdicaa.FindG Go.Proofs.Ytbeefbhoccdicaa.EdgesG Go.Proofs.Ytbeefbhoccdicaa.AllG Go.Proofs.Ytbeefbhoccdicaa.CheckG Go.Proofs.Ytbeefbhoccdicaa.EncG Go.Proofs.Ytbeefbhoccdicaa.SameG Go.Proofs.Ytbeefbhoccdicaa.RdSpec Go.Proofs.Ytbeefbhoccdicaa.TakeG Go.Proofs.Ytbeefbhoccdicaa.DecG Go.Proofs.Ytbeefbhoccdicaa.PlainG Go.Proofs.Ytbeefbhoccdicaa.AwakeG Go.Proofs.Ytbeefbhoccdicaa.RefSpec
set_option linter.unusedVariables false

/-- A row of one vertex. -/
theorem c53_one (w : World) (b : Nat) (v : S53) (A : Option Addr) (c : Nat) (hl : v.f2.length ≤ c) (hr : Kd.C k67 w A v.f2.length v.f2) (h : w.heap[b]? = some (.cells #[.int .i64 v.f0, .int .i64 v.f1, .slice A v.f2.length c] 53 (0, 0))) : Kd.C k53 w (some ⟨b, 0, none⟩) 1 [v] := by
  refine ⟨rfl, by decide, fun _ => ⟨_, rfl, ?_⟩⟩
  intro j p hj
  have hj0 : j = 0 := by
    have := (List.getElem?_eq_some_iff.1 hj).1
    simp at this
    exact this
  subst hj0
  have hp : v = p := by simpa using hj
  subst hp
  refine ⟨_, rfl, k53_mk w v hl hr, ?_⟩
  intro i u hi
  have hlt := (List.getElem?_eq_some_iff.1 hi).1
  have h2 : i = 0 ∨ i = 1 ∨ i = 2 := by simp at hlt; omega
  rcases h2 with rfl | rfl | rfl
  · exact (blk_cell h 0).trans (by simpa using hi)
  · exact (blk_cell h 1).trans (by simpa using hi)
  · exact (blk_cell h 2).trans (by simpa using hi)

/-- What is taken off a vertex's bytes. -/
theorem vert_back (v : S53) (more : ByteArray) (hv : VertIn v) (hl : v.f2.length ≤ 2048) : vertS (putVertex ⟨#[]⟩ v ++ more) ⟨0, 0⟩ = (rawV v, ⟨(putVertex ⟨#[]⟩ v).size, 0⟩) := by
  have h := vert_at (putVertex ⟨#[]⟩ v ++ more) v 0 (bs more) (by rw [List.drop_zero, bs_append, bs_vert]; rfl) hv hl
  rw [h, ← bs_length (putVertex ⟨#[]⟩ v), bs_vert]
  have e : bs (⟨#[]⟩ : ByteArray) = [] := rfl
  rw [e, List.nil_append, Nat.zero_add]

set_option maxHeartbeats 8000000 in
set_option maxRecDepth 100000 in
theorem law_calls (w : World) (v : S53) (A : Option Addr) (c : Nat) (more : ByteArray) (hl : v.f2.length ≤ c) (hr : Kd.C k67 w A v.f2.length v.f2) (hv : VertIn v) (hm : more.size ≤ 140737488351232) :
    Calls Try.prog 5 #[.agg #[.int .i64 v.f0, .int .i64 v.f1, .slice A v.f2.length c], .string more] w fun e w' => e = .returned (.bool true) ∧ Below w.heap.size w w' := by
  have hmax : v.f2.length ≤ 9223372036854775807 := hr.2.1
  generalize hw1 : w.alloc (.cells #[.int .i64 v.f0, .int .i64 v.f1, .slice A v.f2.length c] 53) = w1
  have hz1 : w1.heap.size = w.heap.size + 1 := by rw [← hw1, World.size_alloc]
  have hx1 : w1.heap[w.heap.size]? = some (.cells #[.int .i64 v.f0, .int .i64 v.f1, .slice A v.f2.length c] 53 (0, 0)) := by rw [← hw1]; exact blk_new w _
  have hb1 : Below w.heap.size w w1 := by rw [← hw1]; exact below_alloc (Below.refl _ _) _
  have hc0 : w1.cell? ⟨w.heap.size, 2, none⟩ = some (.slice A v.f2.length c) := (blk_cell hx1 2).trans rfl
  have HR := Aside0.mk (Kd.C_below hr hb1)
  have HX1 := Aside0.mk hx1
  have HB1 := Aside0.mk hb1
  have HV := Aside0.mk hv
  have HM := Aside0.mk hm
  have HLC := Aside0.mk hl
  clear hr hx1 hb1 hv hm hl
  rcases Nat.lt_or_ge 2048 v.f2.length with hbig | hsm
  · have hbig1 : ((2048 : Int) < (v.f2.length : Int)) = True := eq_true (by omega)
    go_enter Try.func5, Try.ntmps5
    go_wp2_with fail
    refine (awake_calls w1).mono ?_
    rintro e w2 ⟨rfl, hb2⟩
    go_wp2_with fail
    go_ret
    exact ⟨rfl, below_then HB1.out HB1.out.size hb2⟩
  · have hsm1 : ((2048 : Int) < (v.f2.length : Int)) = False := eq_false (by omega)
    have HS := Aside0.mk hsm
    clear hsm
    go_enter Try.func5, Try.ntmps5
    go_wp2_with fail
    refine (new_calls w1 w1 (Below.refl _ _)).mono ?_
    rintro e w2 ⟨g, rfl, hI2, hB2, hK2⟩
    have hx2 := blk_below HX1.out hB2
    have h20 := (blk_cell hx2 0).trans rfl
    have h21 := (blk_cell hx2 1).trans rfl
    have h22 := (blk_cell hx2 2).trans rfl
    replace h20 : w2.cell? ⟨w.heap.size, 0, none⟩ = some (.int .i64 v.f0) := h20
    replace h21 : w2.cell? ⟨w.heap.size, 1, none⟩ = some (.int .i64 v.f1) := h21
    replace h22 : w2.cell? ⟨w.heap.size, 2, none⟩ = some (.slice A v.f2.length c) := h22
    have HI2 := Aside0.mk hI2
    have HB2 := Aside0.mk hB2
    clear hI2 hB2 hK2 hx2 hw1
    go_wp2_with fail
    have h00 : (⟨#[]⟩ : ByteArray).size = 0 := rfl
    refine (vertex_calls w1 w2 g ⟨#[]⟩ v A c HR.out HV.out HI2.out HB2.out (by have := HS.out; omega)).mono ?_
    rintro e w3 ⟨rfl, hI3, hB3, hK3⟩
    have HI3 := Aside0.mk hI3
    have HB3 := Aside0.mk hB3
    have hps := putVertex_size ⟨#[]⟩ v
    have hback := vert_back v more HV.out HS.out
    have hvb := vb_f (k := 4000) v HV.out (by have := HS.out; omega) (by have := HS.out; omega)
    clear hI3 hB3 hK3 h20 h21 h22
    obtain ⟨q, hq⟩ : ∃ q, putVertex ⟨#[]⟩ v = q := ⟨_, rfl⟩
    rw [hq] at HI3 hps hback hvb
    have HQ := Aside0.mk hq
    have HBK := Aside0.mk hback
    have HVB := Aside0.mk hvb
    clear hq hback hvb
    go_wp2_with fail
    refine (all_calls w1 w3 g _ HI3.out).mono ?_
    rintro e w4 ⟨rfl, rfl⟩
    have hsum : q.size + more.size ≤ 140737488351232 + 100000 := by have := HM.out; have := HS.out; omega
    go_wp2_with fail
    refine (wire_NewReader.calls (q ++ more) (q ++ more) 0 0 w1 w3 HB3.out rfl).mono ?_
    rintro e w5 ⟨g2, rfl, hI5, hB5, _⟩
    have hsz : Sz (q ++ more) := by unfold Sz; rw [ByteArray.size_append]; omega
    have htv := wire_vert (k := 4201) (by omega) (q ++ more) ⟨0, 0⟩ hsz (Nat.zero_le _)
    rw [HBK.out] at htv
    have hmap : (rawV v).2.2.map e67 = v.f2 := by
      unfold rawV
      simp only [List.map_map]
      exact List.map_id'' (fun e => rfl) _
    rw [hmap] at htv
    have HTV := Aside0.mk (show graph_TakeVertex.f 4201 (q ++ more) 0 0 = some (v.f0, v.f1, v.f2, q ++ more, (q.size : Int), 0) from htv)
    have HI5 := Aside0.mk hI5
    have HB5 := Aside0.mk hB5
    have HSZ := Aside0.mk hsz
    clear hI5 hB5 htv hmap hsz
    go_wp2_with fail
    refine (graph_TakeVertex.calls 4201 g2 (q ++ more) 0 0 v.f0 v.f1 v.f2 (q ++ more) q.size 0 w1 w5 HI5.out HB5.out HTV.out).mono ?_
    rintro e w6 ⟨v6, rfl, hR6, hI6, hB6, hK6⟩
    obtain ⟨A6, c6, he6, hl6, hC6⟩ := Kd.R_reads hR6
    subst he6
    have HC6 := Aside0.mk hR6
    have HL6 := Aside0.mk hl6
    have HI6 := Aside0.mk hI6
    have HB6 := Aside0.mk hB6
    clear hR6 hC6 hI6 hB6 hK6 hl6
    have HB7 := Aside0.mk (HB6.out.alloc HB6.out.size (.cells #[.int .i64 v.f0, .int .i64 v.f1, .slice A6 v.f2.length c6] 53))
    have HX7 := Aside0.mk (blk_new w6 (.cells #[.int .i64 v.f0, .int .i64 v.f1, .slice A6 v.f2.length c6] 53))
    have HC7 := Aside0.mk (Kd.R_alloc HC6.out (.cells #[.int .i64 v.f0, .int .i64 v.f1, .slice A6 v.f2.length c6] 53))
    have HI7 := Aside0.mk (HI6.out.alloc (.cells #[.int .i64 v.f0, .int .i64 v.f1, .slice A6 v.f2.length c6] 53))
    go_wp2_with fail
    generalize w6.alloc (.cells #[.int .i64 v.f0, .int .i64 v.f1, .slice A6 v.f2.length c6] 53) = w7 at HB7 HX7 HC7 HI7 ⊢
    refine (awake_calls w7).mono ?_
    rintro e w8 ⟨rfl, hb8⟩
    have HB8 := Aside0.mk (below_then HB7.out HB7.out.size hb8)
    have HX8 := Aside0.mk (blk_below HX7.out hb8)
    have HC8 := Aside0.mk (Kd.R_below HC7.out hb8)
    have HI8 := Aside0.mk (HI7.out.below hb8)
    have hx8 := blk_below HX1.out HB8.out
    have h80 : w8.cell? ⟨w.heap.size, 0, none⟩ = some (.int .i64 v.f0) := (blk_cell hx8 0).trans rfl
    have h81 : w8.cell? ⟨w.heap.size, 1, none⟩ = some (.int .i64 v.f1) := (blk_cell hx8 1).trans rfl
    have h82 : w8.cell? ⟨w.heap.size, 2, none⟩ = some (.slice A v.f2.length c) := (blk_cell hx8 2).trans rfl
    clear hb8 hx8 HB7 HX7 HC7 HI7
    go_wp2_with fail
    have hx9 := blk_new w8 (.cells #[.int .i64 v.f0, .int .i64 v.f1, .slice A v.f2.length c] 53)
    have HR9 := Aside0.mk (Kd.C_alloc (Kd.C_below HR.out HB8.out) (.cells #[.int .i64 v.f0, .int .i64 v.f1, .slice A v.f2.length c] 53))
    have HB9 := Aside0.mk (HB8.out.alloc HB8.out.size (.cells #[.int .i64 v.f0, .int .i64 v.f1, .slice A v.f2.length c] 53))
    have HX9 := Aside0.mk (blk_alloc HX8.out (.cells #[.int .i64 v.f0, .int .i64 v.f1, .slice A v.f2.length c] 53))
    have HC9 := Aside0.mk (Kd.R_alloc HC8.out (.cells #[.int .i64 v.f0, .int .i64 v.f1, .slice A v.f2.length c] 53))
    have HI9 := Aside0.mk (HI8.out.alloc (.cells #[.int .i64 v.f0, .int .i64 v.f1, .slice A v.f2.length c] 53))
    have HV9 := Aside0.mk (c53_one _ _ v A c HLC.out HR9.out hx9)
    generalize w8.alloc (.cells #[.int .i64 v.f0, .int .i64 v.f1, .slice A v.f2.length c] 53) = w9 at hx9 HR9 HB9 HX9 HC9 HI9 HV9 ⊢
    clear hx9 h80 h81 h82 HB8 HX8 HC8 HI8
    obtain ⟨k1, hk1⟩ := ref_ref [v] (by simp) (by intro x hx; simp only [List.mem_cons, List.not_mem_nil, or_false] at hx; subst hx; have := HS.out; omega)
    refine (cohortlaw03_Ref.calls k1 (some ⟨w8.heap.size, 0, none⟩) 1 [v] _ w9 HV9.out (Nat.le_refl _) hk1).mono ?_
    rintro e w10 ⟨u, rfl, hS, hb10⟩
    obtain ⟨AR, cR, hAR, hlR, hCR⟩ := Kd.S_reads hS
    subst hAR
    obtain ⟨ad, A10, c10, hA10, hy0, hy1, hy2, hl10, hr10⟩ := at_T59 hCR 0 (by decide) (by simp)
    subst hA10
    have hrd : rd_T59 ([v].map r59) 0 = r59 v := rfl
    rw [hrd] at hy0 hy1 hy2 hl10 hr10
    have hf : (r59 v).f2 = v.f2.map r140 := rfl
    rw [hf] at hy2 hl10 hr10
    replace hy0 : w10.cell? ad = some (.int .i64 v.f0) := hy0
    replace hy1 : w10.cell? ⟨ad.block, ad.off + 1, none⟩ = some (.int .i64 v.f1) := hy1
    replace hy2 : w10.cell? ⟨ad.block, ad.off + 2, none⟩ = some (.slice A10 (v.f2.map r140).length c10) := hy2
    have HRR := Aside0.mk hr10
    have HLL := Aside0.mk hl10
    have HB10 := Aside0.mk (below_then HB9.out HB9.out.size hb10)
    have HX10 := Aside0.mk (blk_below HX9.out hb10)
    have HC10 := Aside0.mk (Kd.R_below HC9.out hb10)
    have HI10 := Aside0.mk (HI9.out.below hb10)
    clear hb10 hS hCR hr10 hl10 hk1 hlR HR9 HB9 HX9 HC9 HI9 HV9
    generalize hes : v.f2.map r140 = es at hy2 HRR HLL
    have HES := Aside0.mk hes
    clear hes
    have hone : ([v].map r59).length = 1 := rfl
    rw [hone]
    go_wp2_with fail
    refine (cohortref03_VertexBytes.calls 4000 v.f0 v.f1 A10 c10 es q w10 HRR.out HLL.out (by rw [← HES.out]; exact HVB.out)).mono ?_
    rintro e w11 ⟨rfl, hb11⟩
    have HB11 := Aside0.mk (below_then HB10.out HB10.out.size hb11)
    have HX11 := Aside0.mk (blk_below HX10.out hb11)
    have HC11 := Aside0.mk (Kd.R_below HC10.out hb11)
    have HI11 := Aside0.mk (HI10.out.below hb11)
    clear hb11 hy0 hy1 hy2 HB10 HX10 HC10 HI10
    go_wp2_with fail
    refine (wire_Reader_Err.calls g2 (q ++ more) q.size 0 _ _ _ _ w1 w11 HI11.out HB11.out rfl).mono ?_
    rintro e w12 ⟨rfl, hI12, hB12, hK12⟩
    have hne : w6.heap.size ≠ g2 := Nat.ne_of_gt (IsS147.lt HI6.out)
    have HX12 := Aside0.mk (KeepBut.blk hK12 HX11.out hne (by simp))
    have HC12 := Aside0.mk (Kd.R_mono (ok' := fun _ => True) (Kd.R_keep (IsS147.apart HI11.out HC11.out (by decide)) hK12 (fun _ h => h.2)) (fun _ _ => trivial))
    have HI12 := Aside0.mk hI12
    have HB12 := Aside0.mk hB12
    clear hI12 hB12 hK12
    go_wp2_with fail
    have hleft : wire_Reader_Left.f (q ++ more) (q.size : Int) 0 = some ((more.size : Int), q ++ more, (q.size : Int), 0) := by
      unfold wire_Reader_Left.f
      rw [ByteArray.size_append, wrap_in (by unfold In; omega)]
      simp
      omega
    refine (wire_Reader_Left.calls g2 (q ++ more) q.size 0 _ _ _ _ w1 w12 HI12.out HB12.out hleft).mono ?_
    rintro e w13 ⟨rfl, hI13, hB13, hK13⟩
    have hx13 := KeepBut.blk hK13 HX12.out hne (by simp)
    have hC13 := Kd.R_mono (ok' := fun _ => True) (Kd.R_keep (IsS147.apart HI12.out HC12.out (by decide)) hK13 (fun _ h => h.2)) (fun _ _ => trivial)
    obtain ⟨_, hl13, hC13⟩ := Kd.R_reads' hC13
    have HC13 := Aside0.mk hC13
    have HL13 := Aside0.mk hl13
    have HB13 := Aside0.mk hB13
    have hq0 : w13.cell? ⟨w6.heap.size, 0, none⟩ = some (.int .i64 v.f0) := (blk_cell hx13 0).trans rfl
    have hq1 : w13.cell? ⟨w6.heap.size, 1, none⟩ = some (.int .i64 v.f1) := (blk_cell hx13 1).trans rfl
    have hq2 : w13.cell? ⟨w6.heap.size, 2, none⟩ = some (.slice A6 v.f2.length c6) := (blk_cell hx13 2).trans rfl
    have hx1 := blk_below HX1.out HB13.out
    have h130 : w13.cell? ⟨w.heap.size, 0, none⟩ = some (.int .i64 v.f0) := (blk_cell hx1 0).trans rfl
    have h131 : w13.cell? ⟨w.heap.size, 1, none⟩ = some (.int .i64 v.f1) := (blk_cell hx1 1).trans rfl
    have h132 : w13.cell? ⟨w.heap.size, 2, none⟩ = some (.slice A v.f2.length c) := (blk_cell hx1 2).trans rfl
    have hlt6 : w6.heap.size < w13.heap.size := blk_lt hx13
    have hnx : (w6.heap.size = w13.heap.size) = False := eq_false (by omega)
    clear hI13 hB13 hK13 hx13 hC13 hl13 hx1 hleft
    go_wp2_with fail
    have ha := blk_alloc (blk_new w13 (.cells #[.int .i64 v.f0, .int .i64 v.f1, .slice A v.f2.length c] 53)) (.cells #[.int .i64 v.f0, .int .i64 v.f1, .slice A6 v.f2.length c6] 53)
    have hb := blk_new (w13.alloc (.cells #[.int .i64 v.f0, .int .i64 v.f1, .slice A v.f2.length c] 53)) (.cells #[.int .i64 v.f0, .int .i64 v.f1, .slice A6 v.f2.length c6] 53)
    rw [World.size_alloc] at hb
    have hbw := below_alloc (below_alloc (Below.refl _ w13) (.cells #[.int .i64 v.f0, .int .i64 v.f1, .slice A v.f2.length c] 53)) (.cells #[.int .i64 v.f0, .int .i64 v.f1, .slice A6 v.f2.length c6] 53)
    refine (same_calls _ [v] [v] (some ⟨w13.heap.size, 0, none⟩) (some ⟨w13.heap.size + 1, 0, none⟩) 1 1 (c53_one _ _ v A c HLC.out (Kd.C_below HR.out (below_then HB13.out HB13.out.size hbw)) ha) (c53_one _ _ v A6 c6 HL13.out (Kd.C_below HC13.out hbw) hb)).mono ?_
    rintro e w14 ⟨⟨b, rfl, hT⟩, hb14⟩
    have hbt : b = true := hT.2 rfl
    subst hbt
    have HB14 := Aside0.mk (below_then (below_then HB13.out HB13.out.size hbw) (by have := HB13.out.size; have := hbw.size; omega) hb14)
    clear hb14 ha hb hbw hT
    go_wp2_with fail
    go_ret
    exact ⟨by first | rfl | simp, below_then HB1.out HB1.out.size HB14.out⟩
end Go.Proofs.Ytbeefbhoccdicaa.VertLaw
