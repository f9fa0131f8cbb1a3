/- What is said, as bytes: walked for what is asked and for what is told. -/
import Derived.Test.YtbeefbhoccdicaaPutT
import Derived.Deep.MidRow
namespace Go.Proofs.Ytbeefbhoccdicaa.EncS
open Go.RowKit Go.Proofs.YtbeefbhoccdicaaW.PrintWords Go.Proofs.YtbeefbhoccdicaaW.PrintLast Go.Proofs.YtbeefbhoccdicaaW.PrintMore Go.Proofs.Ytbeefbhoccdicaa.QGraphReads Go.Proofs.Ytbeefbhoccdicaa.PlainV Go.Proofs.Ytbeefbhoccdicaa.WireNum Go.Proofs.Ytbeefbhoccdicaa.WireRead Go.Proofs.Ytbeefbhoccdicaa.Writer Go.Proofs.Ytbeefbhoccdicaa.RdSpec Go.Proofs.Ytbeefbhoccdicaa.RdC Go.Proofs.Ytbeefbhoccdicaa.TakeA Go.Proofs.Ytbeefbhoccdicaa.TakeT Go.Proofs.Ytbeefbhoccdicaa.PutC Go.Proofs.Ytbeefbhoccdicaa.PutT
set_option linter.unusedVariables false
set_option linter.unusedSimpArgs false

theorem range_of {w : World} {g t : Nat} {cs : Array Value} (h : w.heap[g]? = some (.cells cs t (0, 0))) {o : Nat} {l : List Value} (hl : ∀ (j : Nat) v, l[j]? = some v → cs[o + j]? = some v) : w.rangeAt g o l := fun j v hj => (blk_cell h (o + j)).trans (hl j v hj)

set_option maxHeartbeats 8000000 in
set_option maxRecDepth 100000 in
theorem encAsk_calls (w : World) (cs : Array Value) (k : Nat) (ses : Int) (seq id : Nat) (x : ByteArray) (hsz : cs.size = 86) (h0 : cs[0]? = some (.int .i64 5)) (hA : ∀ (j : Nat) v, (askC k ses seq id x).toList[j]? = some v → cs[62 + j]? = some v) (hk : k ≤ 3) (hses : In ses) (hseq : seq ≤ 2147483647) (hid : id ≤ 2147483647) (hx : x.size ≤ 140737488200000) :
    Calls Try.prog 103 #[.agg cs] w fun e w' => ∃ b, e = .returned (.string b) ∧ bs b = vb 10 5 ++ bA k ses seq id x ∧ Below w.heap.size w w' := by
  go_enter Try.func103, Try.ntmps103
  go_wp2_with fail
  have HB1 := Aside0.mk (below_alloc (Below.refl w.heap.size w) (.cells cs 192))
  have HX1 := Aside0.mk (blk_new w (.cells cs 192))
  generalize w.alloc (.cells cs 192) = w1 at HB1 HX1 ⊢
  refine (new_wt w w1 HB1.out).mono ?_
  rintro e w2 ⟨g, rfl, h2, hB2, hK2⟩
  have H2 := Aside0.mk h2
  have HB2 := Aside0.mk hB2
  have HX2 := Aside0.mk (hK2 _ _ _ (by decide) (by decide) HX1.out)
  have hc0 : w2.cell? ⟨w.heap.size, 0, none⟩ = some (.int .i64 5) := (blk_cell HX2.out 0).trans h0
  clear h2 hB2 hK2
  go_wp2_with fail
  refine (cnt_wt w w2 g _ 5 H2.out HB2.out (by omega) (by simp)).mono ?_
  rintro e w3 ⟨rfl, h2, hB2, hK2⟩
  have H3 := Aside0.mk h2
  have HB3 := Aside0.mk hB2
  have HX3 := Aside0.mk (hK2 _ _ _ (by decide) (by decide) HX2.out)
  have hc3 : w3.cell? ⟨w.heap.size, 0, none⟩ = some (.int .i64 5) := (blk_cell HX3.out 0).trans h0
  have HR3 := Aside0.mk (range_of HX3.out hA)
  clear h2 hB2 hK2 hc0
  go_wp2_with ((with_reducible refine gate_dst (N := 58) rfl ?_); refine wpList_load_mid rfl 179 (.tmp 57) rfl w.heap.size 62 rfl _ _ HR3.out Try.underlying179 rfl (by kernel_rfl) ?_)
  refine (putAsk_calls w w3 g k ses seq id x _ H3.out HB3.out hk hses hseq hid (by have := vb_length 10 5; simp only [List.nil_append]; omega)).mono ?_
  rintro e w4 ⟨rfl, h2, hB2, hK2⟩
  have H4 := Aside0.mk h2
  have HB4 := Aside0.mk hB2
  have HX4 := Aside0.mk (hK2 _ _ _ (by decide) (by decide) HX3.out)
  have hc4 : w4.cell? ⟨w.heap.size, 0, none⟩ = some (.int .i64 5) := (blk_cell HX4.out 0).trans h0
  clear h2 hB2 hK2 hc3
  go_wp2_with fail
  refine (all_wt w w4 g _ H4.out).mono ?_
  rintro e w5 ⟨⟨b, rfl, hb⟩, rfl⟩
  have HBB := Aside0.mk hb
  clear hb
  go_wp2_with fail
  go_ret
  exact ⟨b, rfl, HBB.out, HB4.out⟩

set_option maxHeartbeats 8000000 in
set_option maxRecDepth 100000 in
theorem encTold_calls (w : World) (cs : Array Value) (k : Nat) (ses : Int) (seq er rid sid st step ep : Nat) (hsz : cs.size = 86) (h0 : cs[0]? = some (.int .i64 6)) (hA : ∀ (j : Nat) v, (toldC k ses seq er rid sid st step ep (.slice none 0 0)).toList[j]? = some v → cs[67 + j]? = some v) (hk : k ≤ 3) (hses : In ses) (hseq : seq ≤ 2147483647) (her : er ≤ 2147483647) (hrid : rid ≤ 2147483647) (hsid : sid ≤ 2147483647) (hst : st ≤ 2147483647) (hstep : step ≤ 2147483647) (hep : ep ≤ 2147483647) :
    Calls Try.prog 103 #[.agg cs] w fun e w' => ∃ b, e = .returned (.string b) ∧ bs b = vb 10 6 ++ bT k ses seq er rid sid st step ep ∧ Below w.heap.size w w' := by
  go_enter Try.func103, Try.ntmps103
  go_wp2_with fail
  have HB1 := Aside0.mk (below_alloc (Below.refl w.heap.size w) (.cells cs 192))
  have HX1 := Aside0.mk (blk_new w (.cells cs 192))
  generalize w.alloc (.cells cs 192) = w1 at HB1 HX1 ⊢
  refine (new_wt w w1 HB1.out).mono ?_
  rintro e w2 ⟨g, rfl, h2, hB2, hK2⟩
  have H2 := Aside0.mk h2
  have HB2 := Aside0.mk hB2
  have HX2 := Aside0.mk (hK2 _ _ _ (by decide) (by decide) HX1.out)
  have hc0 : w2.cell? ⟨w.heap.size, 0, none⟩ = some (.int .i64 6) := (blk_cell HX2.out 0).trans h0
  clear h2 hB2 hK2
  go_wp2_with fail
  refine (cnt_wt w w2 g _ 6 H2.out HB2.out (by omega) (by simp)).mono ?_
  rintro e w3 ⟨rfl, h2, hB2, hK2⟩
  have H3 := Aside0.mk h2
  have HB3 := Aside0.mk hB2
  have HX3 := Aside0.mk (hK2 _ _ _ (by decide) (by decide) HX2.out)
  have hc3 : w3.cell? ⟨w.heap.size, 0, none⟩ = some (.int .i64 6) := (blk_cell HX3.out 0).trans h0
  have HR3 := Aside0.mk (range_of HX3.out hA)
  clear h2 hB2 hK2 hc0
  go_wp2_with ((with_reducible refine gate_dst (N := 64) rfl ?_); refine wpList_load_mid rfl 126 (.tmp 63) rfl w.heap.size 67 rfl _ _ HR3.out Try.underlying126 rfl (by kernel_rfl) ?_)
  refine (putTold_calls w w3 g k ses seq er rid sid st step ep _ H3.out HB3.out hk hses hseq her hrid hsid hst hstep hep (by have := vb_length 10 6; simp only [List.nil_append]; omega)).mono ?_
  rintro e w4 ⟨rfl, h2, hB2, hK2⟩
  have H4 := Aside0.mk h2
  have HB4 := Aside0.mk hB2
  have HX4 := Aside0.mk (hK2 _ _ _ (by decide) (by decide) HX3.out)
  have hc4 : w4.cell? ⟨w.heap.size, 0, none⟩ = some (.int .i64 6) := (blk_cell HX4.out 0).trans h0
  clear h2 hB2 hK2 hc3
  go_wp2_with fail
  refine (all_wt w w4 g _ H4.out).mono ?_
  rintro e w5 ⟨⟨b, rfl, hb⟩, rfl⟩
  have HBB := Aside0.mk hb
  clear hb
  go_wp2_with fail
  go_ret
  exact ⟨b, rfl, HBB.out, HB4.out⟩
end Go.Proofs.Ytbeefbhoccdicaa.EncS
