/- What a client asks for, and what it is told, taken: walked. -/
import Derived.Test.YtbeefbhoccdicaaTakeC
namespace Go.Proofs.Ytbeefbhoccdicaa.TakeA
open Go.RowKit Go.Proofs.YtbeefbhoccdicaaW.PrintWords Go.Proofs.YtbeefbhoccdicaaW.PrintLast Go.Proofs.YtbeefbhoccdicaaW.PrintMore Go.Proofs.Ytbeefbhoccdicaa.QGraphReads Go.Proofs.Ytbeefbhoccdicaa.PlainV Go.Proofs.Ytbeefbhoccdicaa.WireNum Go.Proofs.Ytbeefbhoccdicaa.WireRead Go.Proofs.Ytbeefbhoccdicaa.RdSpec Go.Proofs.Ytbeefbhoccdicaa.RdC Go.Proofs.Ytbeefbhoccdicaa.TakeC
set_option linter.unusedVariables false
set_option linter.unusedSimpArgs false

/-- The bytes of what is asked for. -/
def bA (k : Nat) (ses : Int) (seq id : Nat) (x : ByteArray) : List Nat := vb 10 k ++ (lS ses ++ ([seq, id].flatMap (vb 10) ++ (vb 10 x.size ++ bs x)))
def askC (k : Nat) (ses : Int) (seq id : Nat) (x : ByteArray) : Array Value := #[.int .i64 (k : Int), .int .i64 ses, .int .i64 (seq : Int), .string x, .int .i64 (id : Int)]

set_option maxHeartbeats 4000000 in
set_option maxRecDepth 100000 in
theorem takeAsk_calls (w0 w : World) (g : Nat) (s : ByteArray) (k : Nat) (ses : Int) (seq id : Nat) (x : ByteArray) (r : List Nat) (h : Rd w0 w g s (bA k ses seq id x ++ r)) (hs : Sz s) (hB : Below w0.heap.size w0 w) (hk : k ≤ 3) (hses : In ses) (hseq : seq ≤ 2147483647) (hid : id ≤ 2147483647) :
    Calls Try.prog 143 #[.pointer (some ⟨g, 0, none⟩)] w fun e w' => e = .returned (.agg (askC k ses seq id x)) ∧ Rd w0 w' g s r ∧ Below w0.heap.size w0 w' ∧ KR w w' := by
  have hr : bA k ses seq id x ++ r = vb 10 k ++ (lS ses ++ ([seq, id].flatMap (vb 10) ++ (vb 10 x.size ++ (bs x ++ r)))) := by
    unfold bA
    simp only [List.append_assoc]
  rw [hr] at h
  have HR := Aside0.mk h
  have HB := Aside0.mk hB
  clear h hB hr
  go_enter Try.func143, Try.ntmps143
  go_wp2_with fail
  obtain ⟨w1, hw1⟩ : ∃ w1, w.alloc (.cells #[.int .i64 0, .int .i64 0, .int .i64 0, .string ⟨#[]⟩, .int .i64 0] 179) = w1 := ⟨_, rfl⟩
  have HR1 := Aside0.mk (show Rd w0 w1 g s _ by rw [← hw1]; exact HR.out.below (below_alloc (Below.refl w.heap.size w) _))
  have HB1 := Aside0.mk (show Below w0.heap.size w0 w1 by rw [← hw1]; exact below_alloc HB.out _)
  have HK1 := Aside0.mk (show KR w w1 by rw [← hw1]; exact KR.alloc _ _)
  have HX1 := Aside0.mk (show w1.heap[w.heap.size]? = some (.cells #[.int .i64 0, .int .i64 0, .int .i64 0, .string ⟨#[]⟩, .int .i64 0] 179 (0, 0)) by rw [← hw1]; exact blk_new w _)
  rw [hw1]
  clear hw1 HR
  refine (cnt_rd w0 w1 g s k 3 _ HR1.out hs HB1.out hk (by omega)).mono ?_
  rintro e w2 ⟨rfl, hR2, hB2, hK2⟩
  have HKs := KR.of HR1.out hK2
  have HR2 := Aside0.mk hR2
  have HB2 := Aside0.mk hB2
  have HK2 := Aside0.mk (HK1.out.trans HKs)
  have HX2 := Aside0.mk (HKs _ _ _ (by decide) HX1.out)
  clear hR2 hB2 hK2 HKs HR1 HB1 HK1 HX1
  go_wp2_with fail
  refine (sgn_rd w0 w2 g s ses _ HR2.out hs HB2.out hses).mono ?_
  rintro e w3 ⟨rfl, hR3, hB3, hK3⟩
  have HKs := KR.of HR2.out hK3
  have HR3 := Aside0.mk hR3
  have HB3 := Aside0.mk hB3
  have HK3 := Aside0.mk (HK2.out.trans HKs)
  have HX3 := Aside0.mk (HKs _ _ _ (by decide) HX2.out)
  clear hR3 hB3 hK3 HKs HR2 HB2 HK2 HX2
  go_wp2_with fail
  obtain ⟨w5, hw5⟩ : ∃ w5, (w3.alloc (.cells #[.int .i64 (k : Int), .int .i64 ses, .int .i64 0, .string ⟨#[]⟩, .int .i64 0] 179)).alloc (.cells #[.pointer (some ⟨w3.heap.size, 2, none⟩), .pointer (some ⟨w3.heap.size, 4, none⟩)] 231) = w5 := ⟨_, rfl⟩
  have hb5 : Below w3.heap.size w3 w5 := by rw [← hw5]; exact below_alloc (below_alloc (Below.refl _ _) _) _
  have HR5 := Aside0.mk (HR3.out.below hb5)
  have HB5 := Aside0.mk (below_then HB3.out HB3.out.size hb5)
  have HK5 := Aside0.mk (HK3.out.trans (KR.below hb5))
  have HX5 := Aside0.mk (blk_below HX3.out hb5)
  have HY5 := Aside0.mk (show w5.heap[w3.heap.size]? = some (.cells #[.int .i64 (k : Int), .int .i64 ses, .int .i64 0, .string ⟨#[]⟩, .int .i64 0] 179 (0, 0)) by rw [← hw5]; exact blk_alloc (blk_new w3 _) _)
  have hZ5 : w5.heap[w3.heap.size + 1]? = some (.cells #[.pointer (some ⟨w3.heap.size, 2, none⟩), .pointer (some ⟨w3.heap.size, 4, none⟩)] 231 (0, 0)) := by
    have h := blk_new (w3.alloc (.cells #[.int .i64 (k : Int), .int .i64 ses, .int .i64 0, .string ⟨#[]⟩, .int .i64 0] 179)) (.cells #[.pointer (some ⟨w3.heap.size, 2, none⟩), .pointer (some ⟨w3.heap.size, 4, none⟩)] 231)
    rw [World.size_alloc] at h
    rw [← hw5]; exact h
  rw [hw5]
  have hsz13 : w.heap.size < w3.heap.size := blk_lt HX3.out
  clear hw5 hb5 HR3 HK3 HX3
  refine (takeCounts_calls w0 w5 g (w3.heap.size + 1) s [seq, id] [(w3.heap.size, 2), (w3.heap.size, 4)] _ HR5.out hs HB5.out (by intro n hn; rcases List.mem_cons.1 hn with rfl | hn; exact hseq; rcases List.mem_cons.1 hn with rfl | hn; exact hid; cases hn) rfl (by simp) hZ5 (by
    intro p hp
    have h0 := HB3.out.size
    rcases List.mem_cons.1 hp with rfl | hp
    · exact ⟨h0, _, 179, by decide, by decide, HY5.out, by simp⟩
    rcases List.mem_cons.1 hp with rfl | hp
    · exact ⟨h0, _, 179, by decide, by decide, HY5.out, by simp⟩
    cases hp)).mono ?_
  rintro e w6 ⟨rfl, hR6, hB6, hW6⟩
  have HR6 := Aside0.mk hR6
  have HB6 := Aside0.mk hB6
  have hY6 := hW6 _ _ 179 (by decide) HY5.out
  simp only [List.zip_cons_cons, List.zip_nil_right, wr, if_true, List.setIfInBounds_toArray, List.set_cons_zero, List.set_cons_succ] at hY6
  have HY6 := Aside0.mk hY6
  have hfr : ∀ (i : Nat) (cs : Array Value) (t : TypeId), t ≠ 147 → i < w3.heap.size → w5.heap[i]? = some (.cells cs t (0, 0)) → w6.heap[i]? = some (.cells cs t (0, 0)) := by
    intro i cs t ht hi hb
    have h := hW6 i cs t ht hb
    rw [wr_none _ _ _ (by
      intro x hx
      have hm := (List.of_mem_zip hx).1
      rcases List.mem_cons.1 hm with h | hm
      · rw [h]; show w3.heap.size ≠ i; omega
      rcases List.mem_cons.1 hm with h | hm
      · rw [h]; show w3.heap.size ≠ i; omega
      cases hm)] at h
    exact h
  have HX6 := Aside0.mk (hfr _ _ _ (by decide) hsz13 HX5.out)
  have HK6 := Aside0.mk (show KR w w6 from fun i cs t ht hb => hfr i cs t ht (by have := blk_lt hb; omega) (HK5.out i cs t ht hb))
  clear hR6 hB6 hW6 hY6 hfr hZ5 HX5 HK5 HR5 HB5 HY5
  go_wp2_with fail
  refine (txt_rd w0 w6 g s x _ HR6.out hs HB6.out).mono ?_
  rintro e w7 ⟨rfl, hR7, hB7, hK7⟩
  have HKs := KR.of HR6.out hK7
  have HR7 := Aside0.mk hR7
  have HB7 := Aside0.mk hB7
  have HK7 := Aside0.mk (HK6.out.trans HKs)
  have HX7 := Aside0.mk (HKs _ _ _ (by decide) HX6.out)
  have HY7 := Aside0.mk (HKs _ _ _ (by decide) HY6.out)
  clear hR7 hB7 hK7 HKs HR6 HB6 HK6 HX6 HY6
  have hy3 := blk_frozen HY7.out 3
  have hx0 : w7.cell? ⟨w.heap.size, 0, none⟩ = some (.int .i64 0) := (blk_cell HX7.out 0).trans rfl
  have hx1 : w7.cell? ⟨w.heap.size, 1, none⟩ = some (.int .i64 0) := (blk_cell HX7.out 1).trans rfl
  have hx2 : w7.cell? ⟨w.heap.size, 2, none⟩ = some (.int .i64 0) := (blk_cell HX7.out 2).trans rfl
  have hx3 : w7.cell? ⟨w.heap.size, 3, none⟩ = some (.string ⟨#[]⟩) := (blk_cell HX7.out 3).trans rfl
  have hx4 : w7.cell? ⟨w.heap.size, 4, none⟩ = some (.int .i64 0) := (blk_cell HX7.out 4).trans rfl
  have hf0 := blk_frozen HX7.out 0
  have hf1 := blk_frozen HX7.out 1
  have hf2 := blk_frozen HX7.out 2
  have hf3 := blk_frozen HX7.out 3
  have hf4 := blk_frozen HX7.out 4
  have hy : w7.cell? ⟨w3.heap.size, 0, none⟩ = some (.int .i64 (k : Int)) := (blk_cell HY7.out 0).trans rfl
  have hy1 : w7.cell? ⟨w3.heap.size, 1, none⟩ = some (.int .i64 ses) := (blk_cell HY7.out 1).trans rfl
  have hy2 : w7.cell? ⟨w3.heap.size, 2, none⟩ = some (.int .i64 (seq : Int)) := (blk_cell HY7.out 2).trans rfl
  have hy3' : w7.cell? ⟨w3.heap.size, 3, none⟩ = some (.string ⟨#[]⟩) := (blk_cell HY7.out 3).trans rfl
  have hy4 : w7.cell? ⟨w3.heap.size, 4, none⟩ = some (.int .i64 (id : Int)) := (blk_cell HY7.out 4).trans rfl
  have hne : (w.heap.size = w3.heap.size) = False := eq_false (by omega)
  have hne' : (w3.heap.size = w.heap.size) = False := eq_false (by omega)
  go_wp2_with fail
  have hgx := HR7.out.ne HX7.out (by decide)
  have hgy := HR7.out.ne HY7.out (by decide)
  have hz0 := blk_far (p := ⟨w3.heap.size, 3, none⟩) HX7.out (by show w.heap.size ≠ w3.heap.size; omega) (.string x)
  have hz := blk_set (blk_set (blk_set (blk_set (blk_set hz0 0 (.int .i64 (k : Int))) 1 (.int .i64 ses)) 2 (.int .i64 (seq : Int))) 3 (.string x)) 4 (.int .i64 (id : Int))
  simp only [List.setIfInBounds_toArray, List.set_cons_zero, List.set_cons_succ] at hz
  have hb0 := HB.out.size
  refine bodyPost_ret (v := .agg (askC k ses seq id x)) (results_cell_row rfl _ _ w.heap.size 179 _ _ _ rfl hz Try.underlying179 rfl (by kernel_rfl)) rfl ⟨rfl, ?_, ?_, ?_⟩
  · exact (((((HR7.out.far hgy _).far hgx _).far hgx _).far hgx _).far hgx _).far hgx _
  · exact below_set (below_set (below_set (below_set (below_set (below_set HB7.out (by omega)) hb0) hb0) hb0) hb0) hb0
  · exact (((((HK7.out.far (by show w.heap.size ≤ w3.heap.size; omega) _).far (Nat.le_refl _) _).far (Nat.le_refl _) _).far (Nat.le_refl _) _).far (Nat.le_refl _) _).far (Nat.le_refl _) _
end Go.Proofs.Ytbeefbhoccdicaa.TakeA
