/- What bytes say: walked for what is asked and for what is told. -/
import Derived.Test.YtbeefbhoccdicaaTakeT
import Derived.Deep.MidRow
namespace Go.Proofs.Ytbeefbhoccdicaa.DecS
open Go.RowKit Go.Proofs.YtbeefbhoccdicaaW.PrintWords Go.Proofs.YtbeefbhoccdicaaW.PrintLast Go.Proofs.YtbeefbhoccdicaaW.PrintMore Go.Proofs.Ytbeefbhoccdicaa.QGraphReads Go.Proofs.Ytbeefbhoccdicaa.PlainV Go.Proofs.Ytbeefbhoccdicaa.WireNum Go.Proofs.Ytbeefbhoccdicaa.WireRead Go.Proofs.Ytbeefbhoccdicaa.RdSpec Go.Proofs.Ytbeefbhoccdicaa.RdC Go.Proofs.Ytbeefbhoccdicaa.TakeC Go.Proofs.Ytbeefbhoccdicaa.TakeA Go.Proofs.Ytbeefbhoccdicaa.TakeT
set_option linter.unusedVariables false
set_option linter.unusedSimpArgs false

/-- The cells behind some stores, one behind the other. -/
def putL : Array Value → Nat → List Value → Array Value
  | cs, _, [] => cs
  | cs, o, v :: r => putL (cs.setIfInBounds o v) (o + 1) r
theorem putL_size : ∀ (l : List Value) (cs : Array Value) (o : Nat), (putL cs o l).size = cs.size := by
  intro l
  induction l with
  | nil => intro cs o; rfl
  | cons v r ih => intro cs o; rw [putL, ih, Array.size_setIfInBounds]
theorem putL_out : ∀ (l : List Value) (cs : Array Value) (o i : Nat), (i < o ∨ o + l.length ≤ i) → (putL cs o l)[i]? = cs[i]? := by
  intro l
  induction l with
  | nil => intro cs o i _; rfl
  | cons v r ih =>
    intro cs o i h
    rw [List.length_cons] at h
    rw [putL, ih _ _ _ (by omega), Array.getElem?_setIfInBounds_ne (by omega)]
theorem putL_in : ∀ (l : List Value) (cs : Array Value) (o j : Nat) (v : Value), o + l.length ≤ cs.size → l[j]? = some v → (putL cs o l)[o + j]? = some v := by
  intro l
  induction l with
  | nil => intro cs o j v _ h; cases h
  | cons u r ih =>
    intro cs o j v hs h
    rw [List.length_cons] at hs
    rw [putL]
    cases j with
    | zero =>
      rw [putL_out _ _ _ _ (by omega)]
      simp only [List.getElem?_cons_zero] at h
      injection h with h
      subst h
      rw [Nat.add_zero, Array.getElem?_setIfInBounds_self_of_lt (by omega)]
    | succ j =>
      rw [List.getElem?_cons_succ] at h
      have := ih (cs.setIfInBounds o u) (o + 1) j v (by rw [Array.size_setIfInBounds]; omega) h
      rw [show o + (j + 1) = o + 1 + j from by omega]
      exact this
theorem putL_one : ∀ (l : List Value) (cs : Array Value) (o : Nat), (∀ v ∈ cs, v.oneCell' = true) → (∀ v ∈ l, v.oneCell' = true) → ∀ v ∈ putL cs o l, v.oneCell' = true := by
  intro l
  induction l with
  | nil => intro cs o h _; exact h
  | cons u r ih =>
    intro cs o h hl
    rw [putL]
    refine ih _ _ (fun v hv => ?_) (fun v hv => hl v (by simp [hv]))
    rcases Array.mem_or_eq_of_mem_setIfInBounds hv with h1 | h1
    · exact h v h1
    · rw [h1]; exact hl u (by simp)
theorem heap_putL : ∀ (l : List Value) (w : World) (b o t : Nat) (cs : Array Value), w.heap[b]? = some (.cells cs t (0, 0)) → (w.setCells b o l).heap[b]? = some (.cells (putL cs o l) t (0, 0)) := by
  intro l
  induction l with
  | nil => intro w b o t cs h; exact h
  | cons v r ih => intro w b o t cs h; rw [World.setCells, putL]; exact ih _ _ _ _ _ (blk_set h o v)
theorem heap_other : ∀ (l : List Value) (w : World) (b o i t : Nat) (cs : Array Value), i ≠ b → w.heap[i]? = some (.cells cs t (0, 0)) → (w.setCells b o l).heap[i]? = some (.cells cs t (0, 0)) := by
  intro l
  induction l with
  | nil => intro w b o i t cs _ h; exact h
  | cons v r ih => intro w b o i t cs hi h; rw [World.setCells]; exact ih _ _ _ _ _ _ hi (blk_far (p := ⟨b, o, none⟩) h hi v)
theorem below_cells : ∀ (l : List Value) (w0 w : World) (b o : Nat), Below w0.heap.size w0 w → w0.heap.size ≤ b → Below w0.heap.size w0 (w.setCells b o l) := by
  intro l
  induction l with
  | nil => intro w0 w b o h _; exact h
  | cons v r ih => intro w0 w b o h hb; rw [World.setCells]; exact ih _ _ _ _ (below_set h hb) hb
theorem rd_cells : ∀ (l : List Value) (w0 w : World) (g b o : Nat) (s : ByteArray) (rest : List Nat), Rd w0 w g s rest → g ≠ b → Rd w0 (w.setCells b o l) g s rest := by
  intro l
  induction l with
  | nil => intro w0 w g b o s rest h _; exact h
  | cons v r ih => intro w0 w g b o s rest h hne; rw [World.setCells]; exact ih _ _ _ _ _ _ _ (h.far (a := ⟨b, o, none⟩) hne v) hne
theorem there_of {w : World} {b t : Nat} {cs : Array Value} (h : w.heap[b]? = some (.cells cs t (0, 0))) {o n : Nat} (hs : o + n ≤ cs.size) : w.there b o n := fun j hj =>
  ⟨by rw [blk_cell h (o + j), Array.getElem?_eq_getElem (by omega)]; rfl, blk_frozen h (o + j)⟩
theorem results_dec (tmps : Array Value) (w : World) (g : Nat) (cs : Array Value) (hp : tmps.getD 2 undef = .pointer (some ⟨g, 0, none⟩)) (h3 : tmps.getD 3 undef = .int .i64 0) (hg : w.heap[g]? = some (.cells cs 192 (0, 0))) (hi : cs.size = 86) :
    (results Try.f106 tmps).run Try.prog w = .ok (.tuple #[.agg cs, .int .i64 0]) w := by
  have hp' : tmps[2]?.getD undef = .pointer (some ⟨g, 0, none⟩) := by simpa using hp
  have h3' : tmps[3]?.getD undef = .int .i64 0 := by simpa using h3
  have h : Try.f106.results = #[.cell 2 192, .tmp 3] := rfl
  have hinfo : (Try.prog.info? 192).map (·.size) = some cs.size := by rw [hi]; kernel_rfl
  have hl := run_loadVar_row (P := Try.prog) w g 192 192 cs (0, 0) _ hg Try.underlying192 rfl hinfo
  simp [results, h, hp', h3', asAddr, hl, Result.andThen]
theorem askC_one (k : Nat) (ses : Int) (seq id : Nat) (x : ByteArray) : ∀ v ∈ askC k ses seq id x, v.oneCell' = true := by
  intro v hv
  simp only [askC, List.mem_toArray, List.mem_cons, List.not_mem_nil, or_false] at hv
  rcases hv with h | h | h | h | h <;> rw [h] <;> rfl
theorem toldC_one (k : Nat) (ses : Int) (seq er rid sid st step ep : Nat) (A : Option Addr) (c : Nat) : ∀ v ∈ toldC k ses seq er rid sid st step ep (.slice A 0 c), v.oneCell' = true := by
  intro v hv
  simp only [toldC, List.mem_toArray, List.mem_cons, List.not_mem_nil, or_false] at hv
  rcases hv with h | h | h | h | h | h | h | h | h | h | h | h | h <;> rw [h] <;> rfl
noncomputable def z5 (n : Int) : Array Value := Try.zeroCells192.setIfInBounds 0 (.int .i64 n)
theorem z5_size (n : Int) : (z5 n).size = 86 := by unfold z5; rw [Array.size_setIfInBounds]; kernel_rfl
theorem zc_size : Try.zeroCells192.size = 86 := by kernel_rfl
theorem zc_one : ∀ v ∈ Try.zeroCells192, v.oneCell' = true := by
  have h : Try.zeroCells192.all (·.oneCell') = true := by kernel_rfl
  exact Array.all_eq_true_iff_forall_mem.1 h
theorem z5_one (n : Int) : ∀ v ∈ z5 n, v.oneCell' = true := by
  intro v hv
  rcases Array.mem_or_eq_of_mem_setIfInBounds hv with h1 | h1
  · exact zc_one v h1
  · rw [h1]; rfl
theorem z5_all (n : Int) : (z5 n).all (·.oneCell') = true := Array.all_eq_true_iff_forall_mem.2 (z5_one n)
theorem z5_zero (n : Int) : (z5 n)[0]? = some (.int .i64 n) := by unfold z5; rw [Array.getElem?_setIfInBounds_self_of_lt (by rw [zc_size]; omega)]

set_option maxHeartbeats 8000000 in
set_option maxRecDepth 100000 in
theorem decAsk_calls (w : World) (s : ByteArray) (k : Nat) (ses : Int) (seq id : Nat) (x : ByteArray) (hb : bs s = vb 10 5 ++ bA k ses seq id x) (hs : Sz s) (hk : k ≤ 3) (hses : In ses) (hseq : seq ≤ 2147483647) (hid : id ≤ 2147483647) :
    Calls Try.prog 106 #[.string s] w fun e w' => (∃ cs : Array Value, e = .returned (.tuple #[.agg cs, .int .i64 0]) ∧ cs.size = 86 ∧ cs[0]? = some (.int .i64 5) ∧ (∀ (j : Nat) v, (askC k ses seq id x).toList[j]? = some v → cs[62 + j]? = some v) ∧ (∀ v ∈ cs, v.oneCell' = true) ∧ cs = putL (z5 5) 62 (askC k ses seq id x).toList) ∧ Below w.heap.size w w' := by
  go_enter Try.func106, Try.ntmps106
  go_wp2_with fail
  have HB1 := Aside0.mk (below_alloc (Below.refl w.heap.size w) (.cells Try.zeroCells192 192))
  have HX1 := Aside0.mk (blk_new w (.cells Try.zeroCells192 192))
  generalize w.alloc (.cells Try.zeroCells192 192) = w1 at HB1 HX1 ⊢
  refine (new_rd w w1 s HB1.out).mono ?_
  rintro e w2 ⟨g, rfl, h2, hB2, hb2⟩
  rw [hb] at h2
  have H2 := Aside0.mk h2
  have HB2 := Aside0.mk hB2
  have HX2 := Aside0.mk (blk_below HX1.out hb2)
  clear h2 hB2 hb2
  go_wp2_with fail
  refine (cnt_rd w w2 g s 5 8 _ H2.out hs HB2.out (by omega) (by omega)).mono ?_
  rintro e w3 ⟨rfl, h2, hB2, hK2⟩
  have HKs := KR.of H2.out hK2
  have H3 := Aside0.mk h2
  have HB3 := Aside0.mk hB2
  have HX3 := Aside0.mk (HKs _ _ _ (by decide) HX2.out)
  clear h2 hB2 hK2 HKs
  have HN3 := Aside0.mk (blk_new w3 (.cells Try.zeroCells192 192))
  obtain ⟨w4, hw4⟩ : ∃ w4, (w3.alloc (.cells Try.zeroCells192 192)).setRow w3.heap.size (z5 5) = w4 := ⟨_, rfl⟩
  have hne3 : w.heap.size ≠ w3.heap.size := by have := blk_lt HX3.out; omega
  have H4 := Aside0.mk (show Rd w w4 g s (bA k ses seq id x) by rw [← hw4]; exact Rd.row (H3.out.below (below_alloc (Below.refl w3.heap.size w3) (.cells Try.zeroCells192 192))) (by have := (H3.out.blk); obtain ⟨c, hc⟩ := this; have := blk_lt hc; omega) _)
  have HB4 := Aside0.mk (show Below w.heap.size w w4 by rw [← hw4]; exact below_setRow (below_alloc HB3.out (.cells Try.zeroCells192 192)) HB3.out.size _)
  have HX4 := Aside0.mk (show w4.heap[w.heap.size]? = some (.cells Try.zeroCells192 192 (0, 0)) by rw [← hw4]; exact (setRow_other _ _ _ _ hne3).trans (blk_alloc HX3.out (.cells Try.zeroCells192 192)))
  have HY4 := Aside0.mk (show w4.heap[w3.heap.size]? = some (.cells (z5 5) 192 (0, 0)) by rw [← hw4]; exact setRow_heap _ _ _ _ _ _ HN3.out)
  have hc4 : w4.cell? ⟨w3.heap.size, 0, none⟩ = some (.int .i64 5) := (blk_cell HY4.out 0).trans (z5_zero 5)
  have hsz3 := HB3.out.size
  clear HX3 HB3 H3
  go_wp2_with ((with_reducible refine gate_store (t := 192) (p := 5) rfl ?_); refine wpList_store_row rfl 192 (.tmp 5) (.tmp 12) rfl w3.heap.size (z5 5) rfl rfl 192 Try.zeroCells192 HN3.out (by rw [z5_size]; kernel_rfl) (by rw [z5_size, zc_size]) (z5_all 5) ?_)
  clear hw4 HN3
  refine (takeAsk_calls w w4 g s k ses seq id x [] (by rw [List.append_nil]; exact H4.out) hs HB4.out hk hses hseq hid).mono ?_
  rintro e w5 ⟨rfl, h2, hB2, HKs⟩
  have H5 := Aside0.mk h2
  have HB5 := Aside0.mk hB2
  have HX5 := Aside0.mk (HKs _ _ _ (by decide) HX4.out)
  have HY5 := Aside0.mk (HKs _ _ _ (by decide) HY4.out)
  clear h2 hB2 HKs hc4
  have hw3 := HB5.out.size
  have hb3 : w.heap.size ≤ w3.heap.size := hsz3
  obtain ⟨w6, hw6⟩ : ∃ w6, w5.setCells w3.heap.size 62 (askC k ses seq id x).toList = w6 := ⟨_, rfl⟩
  obtain ⟨c6, hc6⟩ : ∃ c6, putL (z5 5) 62 (askC k ses seq id x).toList = c6 := ⟨_, rfl⟩
  have hl5 : (askC k ses seq id x).toList.length = 5 := rfl
  have hs6 : c6.size = 86 := by rw [← hc6, putL_size, z5_size]
  have h60 : c6[0]? = some (.int .i64 5) := by rw [← hc6, putL_out _ _ _ _ (Or.inl (by decide)), z5_zero]
  have h6A : ∀ (j : Nat) v, (askC k ses seq id x).toList[j]? = some v → c6[62 + j]? = some v := fun j v hj => by rw [← hc6]; exact putL_in _ _ _ _ _ (by rw [z5_size]; omega) hj
  have h61 : ∀ v ∈ c6, v.oneCell' = true := by
    rw [← hc6]
    exact putL_one _ _ _ (z5_one 5) (fun v hv => askC_one k ses seq id x v (by simpa using hv))
  have H6 := Aside0.mk (show Rd w w6 g s [] by rw [← hw6]; exact rd_cells _ _ _ _ _ _ _ _ H5.out (H5.out.ne HY5.out (by decide)))
  have HB6 := Aside0.mk (show Below w.heap.size w w6 by rw [← hw6]; exact below_cells _ _ _ _ _ HB5.out hb3)
  have HX6 := Aside0.mk (show w6.heap[w.heap.size]? = some (.cells Try.zeroCells192 192 (0, 0)) by rw [← hw6]; exact heap_other _ _ _ _ _ _ _ hne3 HX5.out)
  have HY6 := Aside0.mk (show w6.heap[w3.heap.size]? = some (.cells c6 192 (0, 0)) by rw [← hw6, ← hc6]; exact heap_putL _ _ _ _ _ _ HY5.out)
  have HT5 := Aside0.mk (there_of HY5.out (show 62 + (askC k ses seq id x).size ≤ (z5 5).size by rw [z5_size]; exact (by decide : 62 + 5 ≤ 86)))
  have HALL := Aside0.mk (Array.all_eq_true_iff_forall_mem.2 (askC_one k ses seq id x))
  have HC6 := Aside0.mk h60
  have HA6 := Aside0.mk h6A
  have H1 := Aside0.mk h61
  have HEQ := Aside0.mk hc6
  clear hc6 h60 h6A h61 HX5 hl5
  go_wp2_with ((with_reducible refine gate_store (t := 179) (p := 65) rfl ?_); refine wpList_store_mid rfl 179 (.tmp 65) (.tmp 64) rfl w3.heap.size 62 (askC k ses seq id x) rfl rfl HT5.out (by kernel_rfl) HALL.out ?_)
  clear hw6
  refine (end_rd w w6 g s H6.out hs HB6.out).mono ?_
  rintro e w7 ⟨rfl, h2, hB2, hK2⟩
  have HKs := KR.of H6.out hK2
  have HB7 := Aside0.mk hB2
  have HX7 := Aside0.mk (HKs _ _ _ (by decide) HX6.out)
  have HY7 := Aside0.mk (HKs _ _ _ (by decide) HY6.out)
  clear h2 hB2 hK2 HKs
  have HS6 := Aside0.mk hs6
  have HIN := Aside0.mk (show (Try.prog.info? 192).map (·.size) = some c6.size by rw [hs6]; kernel_rfl)
  have HSZ := Aside0.mk (show Try.zeroCells192.size = c6.size by rw [hs6, zc_size])
  have HAL := Aside0.mk (Array.all_eq_true_iff_forall_mem.2 H1.out)
  clear hs6
  go_wp2_with (first | ((with_reducible refine gate_dst (N := 99) rfl ?_); refine wpList_load_row rfl 192 (.tmp 5) rfl w3.heap.size rfl 192 c6 (0, 0) _ HY7.out Try.underlying192 rfl HIN.out ?_) | ((with_reducible refine gate_store (t := 192) (p := 2) rfl ?_); refine wpList_store_row rfl 192 (.tmp 2) (.tmp 99) rfl w.heap.size c6 rfl rfl 192 Try.zeroCells192 HX7.out HIN.out HSZ.out HAL.out ?_))
  refine bodyPost_ret (v := .tuple #[.agg c6, .int .i64 0]) (results_dec _ _ w.heap.size c6 rfl rfl (setRow_heap _ _ _ _ _ _ HX7.out) HS6.out) rfl ⟨⟨c6, rfl, HS6.out, HC6.out, HA6.out, H1.out, HEQ.out.symm⟩, below_setRow HB7.out (Nat.le_refl _) _⟩

set_option maxHeartbeats 8000000 in
set_option maxRecDepth 100000 in
theorem decTold_calls (w : World) (s : ByteArray) (k : Nat) (ses : Int) (seq er rid sid st step ep : Nat) (hb : bs s = vb 10 6 ++ bT k ses seq er rid sid st step ep) (hs : Sz s) (hk : k ≤ 3) (hses : In ses) (hseq : seq ≤ 2147483647) (her : er ≤ 2147483647) (hrid : rid ≤ 2147483647) (hsid : sid ≤ 2147483647) (hst : st ≤ 2147483647) (hstep : step ≤ 2147483647) (hep : ep ≤ 2147483647) :
    Calls Try.prog 106 #[.string s] w fun e w' => (∃ (cs : Array Value) (A : Option Addr) (c : Nat), e = .returned (.tuple #[.agg cs, .int .i64 0]) ∧ cs.size = 86 ∧ cs[0]? = some (.int .i64 6) ∧ (∀ (j : Nat) v, (toldC k ses seq er rid sid st step ep (.slice A 0 c)).toList[j]? = some v → cs[67 + j]? = some v) ∧ ∀ v ∈ cs, v.oneCell' = true) ∧ Below w.heap.size w w' := by
  go_enter Try.func106, Try.ntmps106
  go_wp2_with fail
  have HB1 := Aside0.mk (below_alloc (Below.refl w.heap.size w) (.cells Try.zeroCells192 192))
  have HX1 := Aside0.mk (blk_new w (.cells Try.zeroCells192 192))
  generalize w.alloc (.cells Try.zeroCells192 192) = w1 at HB1 HX1 ⊢
  refine (new_rd w w1 s HB1.out).mono ?_
  rintro e w2 ⟨g, rfl, h2, hB2, hb2⟩
  rw [hb] at h2
  have H2 := Aside0.mk h2
  have HB2 := Aside0.mk hB2
  have HX2 := Aside0.mk (blk_below HX1.out hb2)
  clear h2 hB2 hb2
  go_wp2_with fail
  refine (cnt_rd w w2 g s 6 8 _ H2.out hs HB2.out (by omega) (by omega)).mono ?_
  rintro e w3 ⟨rfl, h2, hB2, hK2⟩
  have HKs := KR.of H2.out hK2
  have H3 := Aside0.mk h2
  have HB3 := Aside0.mk hB2
  have HX3 := Aside0.mk (HKs _ _ _ (by decide) HX2.out)
  clear h2 hB2 hK2 HKs
  have HN3 := Aside0.mk (blk_new w3 (.cells Try.zeroCells192 192))
  obtain ⟨w4, hw4⟩ : ∃ w4, (w3.alloc (.cells Try.zeroCells192 192)).setRow w3.heap.size (z5 6) = w4 := ⟨_, rfl⟩
  have hne3 : w.heap.size ≠ w3.heap.size := by have := blk_lt HX3.out; omega
  have H4 := Aside0.mk (show Rd w w4 g s (bT k ses seq er rid sid st step ep) by rw [← hw4]; exact Rd.row (H3.out.below (below_alloc (Below.refl w3.heap.size w3) (.cells Try.zeroCells192 192))) (by have := (H3.out.blk); obtain ⟨c, hc⟩ := this; have := blk_lt hc; omega) _)
  have HB4 := Aside0.mk (show Below w.heap.size w w4 by rw [← hw4]; exact below_setRow (below_alloc HB3.out (.cells Try.zeroCells192 192)) HB3.out.size _)
  have HX4 := Aside0.mk (show w4.heap[w.heap.size]? = some (.cells Try.zeroCells192 192 (0, 0)) by rw [← hw4]; exact (setRow_other _ _ _ _ hne3).trans (blk_alloc HX3.out (.cells Try.zeroCells192 192)))
  have HY4 := Aside0.mk (show w4.heap[w3.heap.size]? = some (.cells (z5 6) 192 (0, 0)) by rw [← hw4]; exact setRow_heap _ _ _ _ _ _ HN3.out)
  have hc4 : w4.cell? ⟨w3.heap.size, 0, none⟩ = some (.int .i64 6) := (blk_cell HY4.out 0).trans (z5_zero 6)
  have hsz3 := HB3.out.size
  clear HX3 HB3 H3
  go_wp2_with ((with_reducible refine gate_store (t := 192) (p := 5) rfl ?_); refine wpList_store_row rfl 192 (.tmp 5) (.tmp 12) rfl w3.heap.size (z5 6) rfl rfl 192 Try.zeroCells192 HN3.out (by rw [z5_size]; kernel_rfl) (by rw [z5_size, zc_size]) (z5_all 6) ?_)
  clear hw4 HN3
  refine (takeTold_calls w w4 g s k ses seq er rid sid st step ep [] (by rw [List.append_nil]; exact H4.out) hs HB4.out hk hses hseq her hrid hsid hst hstep hep).mono ?_
  rintro e w5 ⟨⟨A, c, rfl⟩, h2, hB2, HKs⟩
  have H5 := Aside0.mk h2
  have HB5 := Aside0.mk hB2
  have HX5 := Aside0.mk (HKs _ _ _ (by decide) HX4.out)
  have HY5 := Aside0.mk (HKs _ _ _ (by decide) HY4.out)
  clear h2 hB2 HKs hc4
  have hw3 := HB5.out.size
  have hb3 : w.heap.size ≤ w3.heap.size := hsz3
  obtain ⟨w6, hw6⟩ : ∃ w6, w5.setCells w3.heap.size 67 (toldC k ses seq er rid sid st step ep (.slice A 0 c)).toList = w6 := ⟨_, rfl⟩
  obtain ⟨c6, hc6⟩ : ∃ c6, putL (z5 6) 67 (toldC k ses seq er rid sid st step ep (.slice A 0 c)).toList = c6 := ⟨_, rfl⟩
  have hl5 : (toldC k ses seq er rid sid st step ep (.slice A 0 c)).toList.length = 13 := rfl
  have hs6 : c6.size = 86 := by rw [← hc6, putL_size, z5_size]
  have h60 : c6[0]? = some (.int .i64 6) := by rw [← hc6, putL_out _ _ _ _ (Or.inl (by decide)), z5_zero]
  have h6A : ∀ (j : Nat) v, (toldC k ses seq er rid sid st step ep (.slice A 0 c)).toList[j]? = some v → c6[67 + j]? = some v := fun j v hj => by rw [← hc6]; exact putL_in _ _ _ _ _ (by rw [z5_size]; omega) hj
  have h61 : ∀ v ∈ c6, v.oneCell' = true := by
    rw [← hc6]
    exact putL_one _ _ _ (z5_one 6) (fun v hv => toldC_one k ses seq er rid sid st step ep A c v (by simpa using hv))
  have H6 := Aside0.mk (show Rd w w6 g s [] by rw [← hw6]; exact rd_cells _ _ _ _ _ _ _ _ H5.out (H5.out.ne HY5.out (by decide)))
  have HB6 := Aside0.mk (show Below w.heap.size w w6 by rw [← hw6]; exact below_cells _ _ _ _ _ HB5.out hb3)
  have HX6 := Aside0.mk (show w6.heap[w.heap.size]? = some (.cells Try.zeroCells192 192 (0, 0)) by rw [← hw6]; exact heap_other _ _ _ _ _ _ _ hne3 HX5.out)
  have HY6 := Aside0.mk (show w6.heap[w3.heap.size]? = some (.cells c6 192 (0, 0)) by rw [← hw6, ← hc6]; exact heap_putL _ _ _ _ _ _ HY5.out)
  have HT5 := Aside0.mk (there_of HY5.out (show 67 + (toldC k ses seq er rid sid st step ep (.slice A 0 c)).size ≤ (z5 6).size by rw [z5_size]; exact (by decide : 67 + 13 ≤ 86)))
  have HALL := Aside0.mk (Array.all_eq_true_iff_forall_mem.2 (toldC_one k ses seq er rid sid st step ep A c))
  have HC6 := Aside0.mk h60
  have HA6 := Aside0.mk h6A
  have H1 := Aside0.mk h61
  clear hc6 h60 h6A h61 HX5 hl5
  go_wp2_with ((with_reducible refine gate_store (t := 126) (p := 70) rfl ?_); refine wpList_store_mid rfl 126 (.tmp 70) (.tmp 69) rfl w3.heap.size 67 (toldC k ses seq er rid sid st step ep (.slice A 0 c)) rfl rfl HT5.out (by kernel_rfl) HALL.out ?_)
  clear hw6
  refine (end_rd w w6 g s H6.out hs HB6.out).mono ?_
  rintro e w7 ⟨rfl, h2, hB2, hK2⟩
  have HKs := KR.of H6.out hK2
  have HB7 := Aside0.mk hB2
  have HX7 := Aside0.mk (HKs _ _ _ (by decide) HX6.out)
  have HY7 := Aside0.mk (HKs _ _ _ (by decide) HY6.out)
  clear h2 hB2 hK2 HKs
  have HS6 := Aside0.mk hs6
  have HIN := Aside0.mk (show (Try.prog.info? 192).map (·.size) = some c6.size by rw [hs6]; kernel_rfl)
  have HSZ := Aside0.mk (show Try.zeroCells192.size = c6.size by rw [hs6, zc_size])
  have HAL := Aside0.mk (Array.all_eq_true_iff_forall_mem.2 H1.out)
  clear hs6
  go_wp2_with (first | ((with_reducible refine gate_dst (N := 99) rfl ?_); refine wpList_load_row rfl 192 (.tmp 5) rfl w3.heap.size rfl 192 c6 (0, 0) _ HY7.out Try.underlying192 rfl HIN.out ?_) | ((with_reducible refine gate_store (t := 192) (p := 2) rfl ?_); refine wpList_store_row rfl 192 (.tmp 2) (.tmp 99) rfl w.heap.size c6 rfl rfl 192 Try.zeroCells192 HX7.out HIN.out HSZ.out HAL.out ?_))
  refine bodyPost_ret (v := .tuple #[.agg c6, .int .i64 0]) (results_dec _ _ w.heap.size c6 rfl rfl (setRow_heap _ _ _ _ _ _ HX7.out) HS6.out) rfl ⟨⟨c6, A, c, rfl, HS6.out, HC6.out, HA6.out, H1.out⟩, below_setRow HB7.out (Nat.le_refl _) _⟩
end Go.Proofs.Ytbeefbhoccdicaa.DecS
