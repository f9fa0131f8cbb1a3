/- What a client is told, taken: walked. -/
import Derived.Test.YtbeefbhoccdicaaTakeA
namespace Go.Proofs.Ytbeefbhoccdicaa.TakeT
open Go.RowKit Go.Proofs.YtbeefbhoccdicaaW.PrintWords Go.Proofs.YtbeefbhoccdicaaW.PrintLast Go.Proofs.YtbeefbhoccdicaaW.PrintMore Go.Proofs.Ytbeefbhoccdicaa.QGraphReads Go.Proofs.Ytbeefbhoccdicaa.PlainV Go.Proofs.Ytbeefbhoccdicaa.WireNum Go.Proofs.Ytbeefbhoccdicaa.WireRead Go.Proofs.Ytbeefbhoccdicaa.RdSpec Go.Proofs.Ytbeefbhoccdicaa.RdC Go.Proofs.Ytbeefbhoccdicaa.TakeC Go.Proofs.Ytbeefbhoccdicaa.TakeA
set_option linter.unusedVariables false
set_option linter.unusedSimpArgs false

/-- An outcome that there is not, as bytes. -/
def oz : ByteArray := ⟨#[0, 0, 0, 0]⟩
theorem oz_none : run_Decode.f 40 oz = some (0, 0, 0, [], 0) := by kernel_rfl
/-- The bytes of what is told, without an outcome. -/
def bT (k : Nat) (ses : Int) (seq er rid sid st step ep : Nat) : List Nat := vb 10 k ++ (lS ses ++ ([seq, er, rid, sid, st, step, ep].flatMap (vb 10) ++ (vb 10 oz.size ++ bs oz)))
def toldC (k : Nat) (ses : Int) (seq er rid sid st step ep : Nat) (v : Value) : Array Value := #[.int .i64 (k : Int), .int .i64 ses, .int .i64 (seq : Int), .int .i64 (er : Int), .int .i64 (rid : Int), .int .i64 (sid : Int), .int .i64 (st : Int), .int .i64 (step : Int), .int .i64 (ep : Int), .int .i64 0, .int .i64 0, .int .i64 0, v]
theorem three_zero (w : World) : Calls Try.prog 178 #[.string oz] w fun e w' => ∃ A c, e = .returned (.tuple #[.agg #[.int .i64 0, .int .i64 0, .int .i64 0, .slice A 0 c], .int .i64 0]) ∧ Below w.heap.size w w' := by
  refine (run_Decode.calls 40 oz 0 0 0 [] 0 w oz_none).mono ?_
  rintro e w' ⟨v, rfl, hR, hb⟩
  obtain ⟨A, c, rfl⟩ := Kd.R_slice hR
  exact ⟨A, c, rfl, hb⟩

set_option maxHeartbeats 8000000 in
set_option maxRecDepth 100000 in
theorem takeTold_calls (w0 w : World) (g : Nat) (s : ByteArray) (k : Nat) (ses : Int) (seq er rid sid st step ep : Nat) (r : List Nat) (h : Rd w0 w g s (bT k ses seq er rid sid st step ep ++ r)) (hs : Sz s) (hB : Below w0.heap.size w0 w) (hk : k ≤ 3) (hses : In ses)
    (hseq : seq ≤ 2147483647) (her : er ≤ 2147483647) (hrid : rid ≤ 2147483647) (hsid : sid ≤ 2147483647) (hst : st ≤ 2147483647) (hstep : step ≤ 2147483647) (hep : ep ≤ 2147483647) :
    Calls Try.prog 144 #[.pointer (some ⟨g, 0, none⟩)] w fun e w' => (∃ A c, e = .returned (.agg (toldC k ses seq er rid sid st step ep (.slice A 0 c)))) ∧ Rd w0 w' g s r ∧ Below w0.heap.size w0 w' ∧ KR w w' := by
  have hr : bT k ses seq er rid sid st step ep ++ r = vb 10 k ++ (lS ses ++ ([seq, er, rid, sid, st, step, ep].flatMap (vb 10) ++ (vb 10 oz.size ++ (bs oz ++ r)))) := by
    unfold bT
    simp only [List.append_assoc]
  rw [hr] at h
  have HR := Aside0.mk h
  have HB := Aside0.mk hB
  clear h hB hr
  go_enter Try.func144, Try.ntmps144
  go_wp2_with fail
  obtain ⟨w1, hw1⟩ : ∃ w1, w.alloc (.cells #[.int .i64 0, .int .i64 0, .int .i64 0, .int .i64 0, .int .i64 0, .int .i64 0, .int .i64 0, .int .i64 0, .int .i64 0, .int .i64 0, .int .i64 0, .int .i64 0, .slice none 0 0] 126) = w1 := ⟨_, rfl⟩
  have HR1 := Aside0.mk (show Rd w0 w1 g s _ by rw [← hw1]; exact HR.out.below (below_alloc (Below.refl w.heap.size w) _))
  have HB1 := Aside0.mk (show Below w0.heap.size w0 w1 by rw [← hw1]; exact below_alloc HB.out _)
  have HK1 := Aside0.mk (show KR w w1 by rw [← hw1]; exact KR.alloc _ _)
  have HX1 := Aside0.mk (show w1.heap[w.heap.size]? = some (.cells #[.int .i64 0, .int .i64 0, .int .i64 0, .int .i64 0, .int .i64 0, .int .i64 0, .int .i64 0, .int .i64 0, .int .i64 0, .int .i64 0, .int .i64 0, .int .i64 0, .slice none 0 0] 126 (0, 0)) by rw [← hw1]; exact blk_new w _)
  rw [hw1]
  clear hw1 HR
  refine (cnt_rd w0 w1 g s k 3 _ HR1.out hs HB1.out hk (by omega)).mono ?_
  rintro e w2 ⟨rfl, hR2, hB2, hK2⟩
  have HKs := KR.of HR1.out hK2
  have HR2 := Aside0.mk hR2
  have HB2 := Aside0.mk hB2
  have HK2 := Aside0.mk (HK1.out.trans HKs)
  have HX2 := Aside0.mk (HKs _ _ _ (by decide) HX1.out)
  clear hR2 hB2 hK2 HKs HR1 HB1 HK1 HX1
  go_wp2_with fail
  refine (sgn_rd w0 w2 g s ses _ HR2.out hs HB2.out hses).mono ?_
  rintro e w3 ⟨rfl, hR3, hB3, hK3⟩
  have HKs := KR.of HR2.out hK3
  have HR3 := Aside0.mk hR3
  have HB3 := Aside0.mk hB3
  have HK3 := Aside0.mk (HK2.out.trans HKs)
  have HX3 := Aside0.mk (HKs _ _ _ (by decide) HX2.out)
  clear hR3 hB3 hK3 HKs HR2 HB2 HK2 HX2
  go_wp2_with fail
  obtain ⟨w5, hw5⟩ : ∃ w5, ((w3.alloc (.cells #[.int .i64 (k : Int), .int .i64 ses, .int .i64 0, .int .i64 0, .int .i64 0, .int .i64 0, .int .i64 0, .int .i64 0, .int .i64 0, .int .i64 0, .int .i64 0, .int .i64 0, .slice none 0 0] 126)).alloc (.cells #[.int .i64 0] 3)).alloc (.cells #[.pointer (some ⟨w3.heap.size, 2, none⟩), .pointer (some ⟨w3.heap.size + 1, 0, none⟩), .pointer (some ⟨w3.heap.size, 4, none⟩), .pointer (some ⟨w3.heap.size, 5, none⟩), .pointer (some ⟨w3.heap.size, 6, none⟩), .pointer (some ⟨w3.heap.size, 7, none⟩), .pointer (some ⟨w3.heap.size, 8, none⟩)] 231) = w5 := ⟨_, rfl⟩
  have hb5 : Below w3.heap.size w3 w5 := by rw [← hw5]; exact below_alloc (below_alloc (below_alloc (Below.refl _ _) _) _) _
  have HR5 := Aside0.mk (HR3.out.below hb5)
  have HB5 := Aside0.mk (below_then HB3.out HB3.out.size hb5)
  have HK5 := Aside0.mk (HK3.out.trans (KR.below hb5))
  have HX5 := Aside0.mk (blk_below HX3.out hb5)
  have HY5 := Aside0.mk (show w5.heap[w3.heap.size]? = some (.cells #[.int .i64 (k : Int), .int .i64 ses, .int .i64 0, .int .i64 0, .int .i64 0, .int .i64 0, .int .i64 0, .int .i64 0, .int .i64 0, .int .i64 0, .int .i64 0, .int .i64 0, .slice none 0 0] 126 (0, 0)) by rw [← hw5]; exact blk_alloc (blk_alloc (blk_new w3 _) _) _)
  have HE5 := Aside0.mk (show w5.heap[w3.heap.size + 1]? = some (.cells #[.int .i64 0] 3 (0, 0)) by
    have h := blk_alloc (blk_new (w3.alloc (.cells #[.int .i64 (k : Int), .int .i64 ses, .int .i64 0, .int .i64 0, .int .i64 0, .int .i64 0, .int .i64 0, .int .i64 0, .int .i64 0, .int .i64 0, .int .i64 0, .int .i64 0, .slice none 0 0] 126)) (.cells #[.int .i64 0] 3)) (.cells #[.pointer (some ⟨w3.heap.size, 2, none⟩), .pointer (some ⟨w3.heap.size + 1, 0, none⟩), .pointer (some ⟨w3.heap.size, 4, none⟩), .pointer (some ⟨w3.heap.size, 5, none⟩), .pointer (some ⟨w3.heap.size, 6, none⟩), .pointer (some ⟨w3.heap.size, 7, none⟩), .pointer (some ⟨w3.heap.size, 8, none⟩)] 231)
    rw [World.size_alloc] at h
    rw [← hw5]; exact h)
  have hZ5 : w5.heap[w3.heap.size + 1 + 1]? = some (.cells #[.pointer (some ⟨w3.heap.size, 2, none⟩), .pointer (some ⟨w3.heap.size + 1, 0, none⟩), .pointer (some ⟨w3.heap.size, 4, none⟩), .pointer (some ⟨w3.heap.size, 5, none⟩), .pointer (some ⟨w3.heap.size, 6, none⟩), .pointer (some ⟨w3.heap.size, 7, none⟩), .pointer (some ⟨w3.heap.size, 8, none⟩)] 231 (0, 0)) := by
    have h := blk_new ((w3.alloc (.cells #[.int .i64 (k : Int), .int .i64 ses, .int .i64 0, .int .i64 0, .int .i64 0, .int .i64 0, .int .i64 0, .int .i64 0, .int .i64 0, .int .i64 0, .int .i64 0, .int .i64 0, .slice none 0 0] 126)).alloc (.cells #[.int .i64 0] 3)) (.cells #[.pointer (some ⟨w3.heap.size, 2, none⟩), .pointer (some ⟨w3.heap.size + 1, 0, none⟩), .pointer (some ⟨w3.heap.size, 4, none⟩), .pointer (some ⟨w3.heap.size, 5, none⟩), .pointer (some ⟨w3.heap.size, 6, none⟩), .pointer (some ⟨w3.heap.size, 7, none⟩), .pointer (some ⟨w3.heap.size, 8, none⟩)] 231)
    rw [World.size_alloc, World.size_alloc] at h
    rw [← hw5]; exact h
  rw [hw5]
  have hsz13 : w.heap.size < w3.heap.size := blk_lt HX3.out
  clear hw5 hb5 HR3 HK3 HX3
  refine (takeCounts_calls w0 w5 g (w3.heap.size + 1 + 1) s [seq, er, rid, sid, st, step, ep] [(w3.heap.size, 2), (w3.heap.size + 1, 0), (w3.heap.size, 4), (w3.heap.size, 5), (w3.heap.size, 6), (w3.heap.size, 7), (w3.heap.size, 8)] _ HR5.out hs HB5.out (by
    intro n hn
    rcases List.mem_cons.1 hn with rfl | hn
    · exact hseq
    rcases List.mem_cons.1 hn with rfl | hn
    · exact her
    rcases List.mem_cons.1 hn with rfl | hn
    · exact hrid
    rcases List.mem_cons.1 hn with rfl | hn
    · exact hsid
    rcases List.mem_cons.1 hn with rfl | hn
    · exact hst
    rcases List.mem_cons.1 hn with rfl | hn
    · exact hstep
    rcases List.mem_cons.1 hn with rfl | hn
    · exact hep
    cases hn) rfl (by simp) hZ5 (by
    intro p hp
    have h0 := HB3.out.size
    rcases List.mem_cons.1 hp with rfl | hp
    · exact ⟨h0, _, 126, by decide, by decide, HY5.out, by simp⟩
    rcases List.mem_cons.1 hp with rfl | hp
    · exact ⟨by show w0.heap.size ≤ w3.heap.size + 1; omega, _, 3, by decide, by decide, HE5.out, by simp⟩
    rcases List.mem_cons.1 hp with rfl | hp
    · exact ⟨h0, _, 126, by decide, by decide, HY5.out, by simp⟩
    rcases List.mem_cons.1 hp with rfl | hp
    · exact ⟨h0, _, 126, by decide, by decide, HY5.out, by simp⟩
    rcases List.mem_cons.1 hp with rfl | hp
    · exact ⟨h0, _, 126, by decide, by decide, HY5.out, by simp⟩
    rcases List.mem_cons.1 hp with rfl | hp
    · exact ⟨h0, _, 126, by decide, by decide, HY5.out, by simp⟩
    rcases List.mem_cons.1 hp with rfl | hp
    · exact ⟨h0, _, 126, by decide, by decide, HY5.out, by simp⟩
    cases hp)).mono ?_
  rintro e w6 ⟨rfl, hR6, hB6, hW6⟩
  have HR6 := Aside0.mk hR6
  have HB6 := Aside0.mk hB6
  have hn1 : ¬ w3.heap.size + 1 = w3.heap.size := by omega
  have hn2 : ¬ w3.heap.size = w3.heap.size + 1 := by omega
  have hY6 := hW6 _ _ 126 (by decide) HY5.out
  simp only [List.zip_cons_cons, List.zip_nil_right, wr, if_true, if_neg hn1, List.setIfInBounds_toArray, List.set_cons_zero, List.set_cons_succ] at hY6
  have HY6 := Aside0.mk hY6
  have hE6 := hW6 _ _ 3 (by decide) HE5.out
  simp only [List.zip_cons_cons, List.zip_nil_right, wr, if_true, if_neg hn2, List.setIfInBounds_toArray, List.set_cons_zero, List.set_cons_succ] at hE6
  have HE6 := Aside0.mk hE6
  have hfr : ∀ (i : Nat) (cs : Array Value) (t : TypeId), t ≠ 147 → i < w3.heap.size → w5.heap[i]? = some (.cells cs t (0, 0)) → w6.heap[i]? = some (.cells cs t (0, 0)) := by
    intro i cs t ht hi hb
    have h := hW6 i cs t ht hb
    rw [wr_none _ _ _ (by
      intro x hx
      have hm : x.1 ∈ [(w3.heap.size, 2), (w3.heap.size + 1, 0), (w3.heap.size, 4), (w3.heap.size, 5), (w3.heap.size, 6), (w3.heap.size, 7), (w3.heap.size, 8)] := (List.of_mem_zip hx).1
      have : w3.heap.size ≤ x.1.1 := by
        simp only [List.mem_cons, List.not_mem_nil, or_false] at hm
        rcases hm with h | h | h | h | h | h | h <;> rw [h] <;> simp
      omega)] at h
    exact h
  have HX6 := Aside0.mk (hfr _ _ _ (by decide) hsz13 HX5.out)
  have HK6 := Aside0.mk (show KR w w6 from fun i cs t ht hb => hfr i cs t ht (by have := blk_lt hb; omega) (HK5.out i cs t ht hb))
  clear hR6 hB6 hW6 hY6 hE6 hfr hZ5 HX5 HK5 HR5 HB5 HY5 HE5 hn1 hn2
  have hce : w6.cell? ⟨w3.heap.size + 1, 0, none⟩ = some (.int .i64 (er : Int)) := (blk_cell HE6.out 0).trans rfl
  have hc3 : w6.cell? ⟨w3.heap.size, 3, none⟩ = some (.int .i64 0) := (blk_cell HY6.out 3).trans rfl
  have hf3 := blk_frozen HY6.out 3
  go_wp2_with fail
  have hw0 := HB.out.size
  obtain ⟨w7, hw7⟩ : ∃ w7, w6.setCell ⟨w3.heap.size, 3, none⟩ (.int .i64 (er : Int)) = w7 := ⟨_, rfl⟩
  have HR7 := Aside0.mk (show Rd w0 w7 g s _ by rw [← hw7]; exact HR6.out.far (HR6.out.ne HY6.out (by decide)) _)
  have HB7 := Aside0.mk (show Below w0.heap.size w0 w7 by rw [← hw7]; exact below_set HB6.out (by omega))
  have HK7 := Aside0.mk (show KR w w7 by rw [← hw7]; exact HK6.out.far (by show w.heap.size ≤ w3.heap.size; omega) _)
  have HY7 := Aside0.mk (show w7.heap[w3.heap.size]? = some (.cells #[.int .i64 (k : Int), .int .i64 ses, .int .i64 (seq : Int), .int .i64 (er : Int), .int .i64 (rid : Int), .int .i64 (sid : Int), .int .i64 (st : Int), .int .i64 (step : Int), .int .i64 (ep : Int), .int .i64 0, .int .i64 0, .int .i64 0, .slice none 0 0] 126 (0, 0)) by rw [← hw7]; exact blk_set HY6.out 3 _)
  have HX7 := Aside0.mk (show w7.heap[w.heap.size]? = some (.cells #[.int .i64 0, .int .i64 0, .int .i64 0, .int .i64 0, .int .i64 0, .int .i64 0, .int .i64 0, .int .i64 0, .int .i64 0, .int .i64 0, .int .i64 0, .int .i64 0, .slice none 0 0] 126 (0, 0)) by rw [← hw7]; exact blk_far (p := ⟨w3.heap.size, 3, none⟩) HX6.out (by show w.heap.size ≠ w3.heap.size; omega) _)
  rw [hw7]
  clear hw7 HR6 HB6 HK6 HY6 HX6 HE6 hce hc3 hf3
  refine (txt_rd w0 w7 g s oz _ HR7.out hs HB7.out).mono ?_
  rintro e w8 ⟨rfl, hR8, hB8, hK8⟩
  have HKs := KR.of HR7.out hK8
  have HR8 := Aside0.mk hR8
  have HB8 := Aside0.mk hB8
  have HK8 := Aside0.mk (HK7.out.trans HKs)
  have HX8 := Aside0.mk (HKs _ _ _ (by decide) HX7.out)
  have HY8 := Aside0.mk (HKs _ _ _ (by decide) HY7.out)
  clear hR8 hB8 hK8 HKs HR7 HB7 HK7 HX7 HY7
  go_wp2_with fail
  refine (three_zero w8).mono ?_
  rintro e w9 ⟨A, c, rfl, hb9⟩
  have HR9 := Aside0.mk (HR8.out.below hb9)
  have HB9 := Aside0.mk (below_then HB8.out HB8.out.size hb9)
  have HK9 := Aside0.mk (HK8.out.trans (KR.below hb9))
  have HX9 := Aside0.mk (blk_below HX8.out hb9)
  have HY9 := Aside0.mk (blk_below HY8.out hb9)
  clear hb9 HR8 HB8 HK8 HX8 HY8
  go_wp2_with fail
  obtain ⟨w10, hw10⟩ : ∃ w10, w9.alloc (.cells #[.int .i64 0, .int .i64 0, .int .i64 0, .slice A 0 c] 120) = w10 := ⟨_, rfl⟩
  have hb10 : Below w9.heap.size w9 w10 := by rw [← hw10]; exact below_alloc (Below.refl _ _) _
  have HR10 := Aside0.mk (HR9.out.below hb10)
  have HB10 := Aside0.mk (below_then HB9.out HB9.out.size hb10)
  have HK10 := Aside0.mk (HK9.out.trans (KR.below hb10))
  have HX10 := Aside0.mk (blk_below HX9.out hb10)
  have HY10 := Aside0.mk (blk_below HY9.out hb10)
  have HO10 := Aside0.mk (show w10.heap[w9.heap.size]? = some (.cells #[.int .i64 0, .int .i64 0, .int .i64 0, .slice A 0 c] 120 (0, 0)) by rw [← hw10]; exact blk_new w9 _)
  have hlt39 : w3.heap.size < w9.heap.size := blk_lt HY9.out
  rw [hw10]
  clear hw10 hb10 HR9 HB9 HK9 HX9 HY9
  refine (err_rd w0 w10 g s _ HR10.out HB10.out).mono ?_
  rintro e w11 ⟨rfl, hR11, hB11, hK11⟩
  have HKs := KR.of HR10.out hK11
  have HR11 := Aside0.mk hR11
  have HB11 := Aside0.mk hB11
  have HK11 := Aside0.mk (HK10.out.trans HKs)
  have HX11 := Aside0.mk (HKs _ _ _ (by decide) HX10.out)
  have HY11 := Aside0.mk (HKs _ _ _ (by decide) HY10.out)
  have HO11 := Aside0.mk (HKs _ _ _ (by decide) HO10.out)
  clear hR11 hB11 hK11 HKs HR10 HB10 HK10 HX10 HY10 HO10
  go_wp2_with fail
  refine (fail_rd w0 w11 g s _ HR11.out HB11.out).mono ?_
  rintro e w12 ⟨rfl, hR12, hB12, hK12⟩
  have HKs := KR.of HR11.out hK12
  have HR12 := Aside0.mk hR12
  have HB12 := Aside0.mk hB12
  have HK12 := Aside0.mk (HK11.out.trans HKs)
  have HX12 := Aside0.mk (HKs _ _ _ (by decide) HX11.out)
  have HY12 := Aside0.mk (HKs _ _ _ (by decide) HY11.out)
  have HO12 := Aside0.mk (HKs _ _ _ (by decide) HO11.out)
  clear hR12 hB12 hK12 HKs HR11 HB11 HK11 HX11 HY11 HO11
  have hx0 : w12.cell? ⟨w.heap.size, 0, none⟩ = some (.int .i64 0) := (blk_cell HX12.out 0).trans rfl
  have hf0 := blk_frozen HX12.out 0
  have hy0 : w12.cell? ⟨w3.heap.size, 0, none⟩ = some (.int .i64 (k : Int)) := (blk_cell HY12.out 0).trans rfl
  have hx1 : w12.cell? ⟨w.heap.size, 1, none⟩ = some (.int .i64 0) := (blk_cell HX12.out 1).trans rfl
  have hf1 := blk_frozen HX12.out 1
  have hy1 : w12.cell? ⟨w3.heap.size, 1, none⟩ = some (.int .i64 ses) := (blk_cell HY12.out 1).trans rfl
  have hx2 : w12.cell? ⟨w.heap.size, 2, none⟩ = some (.int .i64 0) := (blk_cell HX12.out 2).trans rfl
  have hf2 := blk_frozen HX12.out 2
  have hy2 : w12.cell? ⟨w3.heap.size, 2, none⟩ = some (.int .i64 (seq : Int)) := (blk_cell HY12.out 2).trans rfl
  have hx3 : w12.cell? ⟨w.heap.size, 3, none⟩ = some (.int .i64 0) := (blk_cell HX12.out 3).trans rfl
  have hf3 := blk_frozen HX12.out 3
  have hy3 : w12.cell? ⟨w3.heap.size, 3, none⟩ = some (.int .i64 (er : Int)) := (blk_cell HY12.out 3).trans rfl
  have hx4 : w12.cell? ⟨w.heap.size, 4, none⟩ = some (.int .i64 0) := (blk_cell HX12.out 4).trans rfl
  have hf4 := blk_frozen HX12.out 4
  have hy4 : w12.cell? ⟨w3.heap.size, 4, none⟩ = some (.int .i64 (rid : Int)) := (blk_cell HY12.out 4).trans rfl
  have hx5 : w12.cell? ⟨w.heap.size, 5, none⟩ = some (.int .i64 0) := (blk_cell HX12.out 5).trans rfl
  have hf5 := blk_frozen HX12.out 5
  have hy5 : w12.cell? ⟨w3.heap.size, 5, none⟩ = some (.int .i64 (sid : Int)) := (blk_cell HY12.out 5).trans rfl
  have hx6 : w12.cell? ⟨w.heap.size, 6, none⟩ = some (.int .i64 0) := (blk_cell HX12.out 6).trans rfl
  have hf6 := blk_frozen HX12.out 6
  have hy6 : w12.cell? ⟨w3.heap.size, 6, none⟩ = some (.int .i64 (st : Int)) := (blk_cell HY12.out 6).trans rfl
  have hx7 : w12.cell? ⟨w.heap.size, 7, none⟩ = some (.int .i64 0) := (blk_cell HX12.out 7).trans rfl
  have hf7 := blk_frozen HX12.out 7
  have hy7 : w12.cell? ⟨w3.heap.size, 7, none⟩ = some (.int .i64 (step : Int)) := (blk_cell HY12.out 7).trans rfl
  have hx8 : w12.cell? ⟨w.heap.size, 8, none⟩ = some (.int .i64 0) := (blk_cell HX12.out 8).trans rfl
  have hf8 := blk_frozen HX12.out 8
  have hy8 : w12.cell? ⟨w3.heap.size, 8, none⟩ = some (.int .i64 (ep : Int)) := (blk_cell HY12.out 8).trans rfl
  have hx9 : w12.cell? ⟨w.heap.size, 9, none⟩ = some (.int .i64 0) := (blk_cell HX12.out 9).trans rfl
  have hf9 := blk_frozen HX12.out 9
  have hy9 : w12.cell? ⟨w3.heap.size, 9, none⟩ = some (.int .i64 0) := (blk_cell HY12.out 9).trans rfl
  have hx10 : w12.cell? ⟨w.heap.size, 10, none⟩ = some (.int .i64 0) := (blk_cell HX12.out 10).trans rfl
  have hf10 := blk_frozen HX12.out 10
  have hy10 : w12.cell? ⟨w3.heap.size, 10, none⟩ = some (.int .i64 0) := (blk_cell HY12.out 10).trans rfl
  have hx11 : w12.cell? ⟨w.heap.size, 11, none⟩ = some (.int .i64 0) := (blk_cell HX12.out 11).trans rfl
  have hf11 := blk_frozen HX12.out 11
  have hy11 : w12.cell? ⟨w3.heap.size, 11, none⟩ = some (.int .i64 0) := (blk_cell HY12.out 11).trans rfl
  have hx12 : w12.cell? ⟨w.heap.size, 12, none⟩ = some (.slice none 0 0) := (blk_cell HX12.out 12).trans rfl
  have hf12 := blk_frozen HX12.out 12
  have hy12 : w12.cell? ⟨w3.heap.size, 12, none⟩ = some (.slice none 0 0) := (blk_cell HY12.out 12).trans rfl
  have hg9 := blk_frozen HY12.out 9
  have hg10 := blk_frozen HY12.out 10
  have hg11 := blk_frozen HY12.out 11
  have hg12 := blk_frozen HY12.out 12
  have ho0 : w12.cell? ⟨w9.heap.size, 0, none⟩ = some (.int .i64 0) := (blk_cell HO12.out 0).trans rfl
  have ho1 : w12.cell? ⟨w9.heap.size, 1, none⟩ = some (.int .i64 0) := (blk_cell HO12.out 1).trans rfl
  have ho2 : w12.cell? ⟨w9.heap.size, 2, none⟩ = some (.int .i64 0) := (blk_cell HO12.out 2).trans rfl
  have ho3 : w12.cell? ⟨w9.heap.size, 3, none⟩ = some (.slice A 0 c) := (blk_cell HO12.out 3).trans rfl
  have hne := eq_false (show ¬ w.heap.size = w3.heap.size by omega)
  have hne' := eq_false (show ¬ w3.heap.size = w.heap.size by omega)
  have hne2 := eq_false (show ¬ w.heap.size = w9.heap.size by omega)
  have hne2' := eq_false (show ¬ w9.heap.size = w.heap.size by omega)
  have hne3 := eq_false (show ¬ w3.heap.size = w9.heap.size by omega)
  have hne3' := eq_false (show ¬ w9.heap.size = w3.heap.size by omega)
  go_wp2_with fail
  have hgx := HR12.out.ne HX12.out (by decide)
  have hgy := HR12.out.ne HY12.out (by decide)
  have hxy : w.heap.size ≠ w3.heap.size := by omega
  have hb3 : w0.heap.size ≤ w3.heap.size := by omega
  have hk3 : w.heap.size ≤ w3.heap.size := by omega
  have hk0 : w.heap.size ≤ w.heap.size := Nat.le_refl _
  have hz := (blk_set (blk_set (blk_set (blk_set (blk_set (blk_set (blk_set (blk_set (blk_set (blk_set (blk_set (blk_set (blk_set (blk_far (p := ⟨w3.heap.size, 12, none⟩) (blk_far (p := ⟨w3.heap.size, 11, none⟩) (blk_far (p := ⟨w3.heap.size, 10, none⟩) (blk_far (p := ⟨w3.heap.size, 9, none⟩) HX12.out hxy (.int .i64 0)) hxy (.int .i64 0)) hxy (.int .i64 0)) hxy (.slice A 0 c)) 0 (.int .i64 (k : Int))) 1 (.int .i64 ses)) 2 (.int .i64 (seq : Int))) 3 (.int .i64 (er : Int))) 4 (.int .i64 (rid : Int))) 5 (.int .i64 (sid : Int))) 6 (.int .i64 (st : Int))) 7 (.int .i64 (step : Int))) 8 (.int .i64 (ep : Int))) 9 (.int .i64 0)) 10 (.int .i64 0)) 11 (.int .i64 0)) 12 (.slice A 0 c))
  simp only [List.setIfInBounds_toArray, List.set_cons_zero, List.set_cons_succ] at hz
  refine bodyPost_ret (v := .agg (toldC k ses seq er rid sid st step ep (.slice A 0 c))) (results_cell_row rfl _ _ w.heap.size 126 _ _ _ rfl hz Try.underlying126 rfl (by kernel_rfl)) rfl ⟨⟨A, c, rfl⟩, ?_, ?_, ?_⟩
  · exact (((((((((((((((((HR12.out.far hgy _).far hgy _).far hgy _).far hgy _).far hgx _).far hgx _).far hgx _).far hgx _).far hgx _).far hgx _).far hgx _).far hgx _).far hgx _).far hgx _).far hgx _).far hgx _).far hgx _)
  · exact (below_set (below_set (below_set (below_set (below_set (below_set (below_set (below_set (below_set (below_set (below_set (below_set (below_set (below_set (below_set (below_set (below_set HB12.out hb3) hb3) hb3) hb3) hw0) hw0) hw0) hw0) hw0) hw0) hw0) hw0) hw0) hw0) hw0) hw0) hw0)
  · exact (((((((((((((((((HK12.out.far hk3 _).far hk3 _).far hk3 _).far hk3 _).far hk0 _).far hk0 _).far hk0 _).far hk0 _).far hk0 _).far hk0 _).far hk0 _).far hk0 _).far hk0 _).far hk0 _).far hk0 _).far hk0 _).far hk0 _)
end Go.Proofs.Ytbeefbhoccdicaa.TakeT
