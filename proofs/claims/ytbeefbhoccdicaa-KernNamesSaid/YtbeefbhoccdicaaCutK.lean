/- What a vertex can be given: Cut, walked (it ends, and hands back an input). -/
import Derived.Test.YtbeefbhoccdicaaTellLaw
import Derived.Laws.CopyOwn
namespace Go.Proofs.Ytbeefbhoccdicaa.CutK
open Go.RowKit Go.Proofs.YtbeefbhoccdicaaW.PrintWords Go.Proofs.YtbeefbhoccdicaaW.PrintLast Go.Proofs.YtbeefbhoccdicaaW.PrintMore Go.Proofs.Ytbeefbhoccdicaa.QGraphReads Go.Proofs.Ytbeefbhoccdicaa.KernM
set_option linter.unusedVariables false
set_option linter.unusedSimpArgs false

theorem after_set {w w9 : World} {g j t : Nat} {cs : Array Value} {v : Value} (hw : w9 = w.setCell ⟨g, j, none⟩ v) (h : w.heap[g]? = some (.cells cs t (0, 0))) : w9.heap[g]? = some (.cells (cs.setIfInBounds j v) t (0, 0)) := by
  subst hw
  exact blk_put h j v rfl
theorem after_far {w w9 : World} {g j k t : Nat} {o : Array Value} {v : Value} (hw : w9 = w.setCell ⟨g, j, none⟩ v) (h : w.heap[k]? = some (.cells o t (0, 0))) (hne : k ≠ g) : w9.heap[k]? = some (.cells o t (0, 0)) := by
  subst hw
  exact blk_far (p := ⟨g, j, none⟩) h hne v
theorem after_below {w0 w w9 : World} {g j : Nat} {v : Value} (hw : w9 = w.setCell ⟨g, j, none⟩ v) (h : Below w0.heap.size w0 w) (hg : w0.heap.size ≤ g) : Below w0.heap.size w0 w9 := by
  subst hw
  exact below_set h hg
theorem one18 {c0 c1 c2 c3 c4 c5 c6 c7 c8 c9 c10 c11 c12 c13 c14 c15 c16 c17 : Value} (h0 : c0.oneCell' = true) (h1 : c1.oneCell' = true) (h2 : c2.oneCell' = true) (h3 : c3.oneCell' = true) (h4 : c4.oneCell' = true) (h5 : c5.oneCell' = true) (h6 : c6.oneCell' = true) (h7 : c7.oneCell' = true) (h8 : c8.oneCell' = true) (h9 : c9.oneCell' = true) (h10 : c10.oneCell' = true) (h11 : c11.oneCell' = true) (h12 : c12.oneCell' = true) (h13 : c13.oneCell' = true) (h14 : c14.oneCell' = true) (h15 : c15.oneCell' = true) (h16 : c16.oneCell' = true) (h17 : c17.oneCell' = true) : (#[c0, c1, c2, c3, c4, c5, c6, c7, c8, c9, c10, c11, c12, c13, c14, c15, c16, c17] : Array Value).all (·.oneCell') = true := by
  simp only [List.all_toArray, List.all_cons, List.all_nil, h0, h1, h2, h3, h4, h5, h6, h7, h8, h9, h10, h11, h12, h13, h14, h15, h16, h17, Bool.and_true]
theorem store_at {P : Program} {ops : Array Oper} {rest : List Oper} {o : Oper} {a : Act} {Q : Exit → Act → World → Prop} {W : World} {g j : Nat} {v : Value} (hgd : o.guard = none) (hN : o.dst = none)
    (hrun : (execOp a.eval o).run P W = .ok .skip (W.setCell ⟨g, j, none⟩ v)) (h : ∀ w', w' = W.setCell ⟨g, j, none⟩ v → wpList P ops Q rest a w') : wpList P ops Q (o :: rest) a W := by
  refine wpList_plain hgd fun K hK => ?_
  unfold Oper.wp
  rw [hrun]
  show K (a.put o.dst undef) _
  rw [hN]
  exact hK _ _ (h _ rfl)
theorem R_empty (w : World) : Kd.R k4 86 (w.alloc (.cells #[] 86)) w.heap.size (fun _ => True) (.slice (some ⟨w.heap.size, 0, none⟩) 0 0) [] :=
  ⟨fun _ _ => trivial, [], World.ownsRow_lit (base := w.heap.size) (e := 86) (size := 4) w #[] 0 (Nat.le_refl _) (by decide) rfl, Reps.none _ _⟩

set_option maxHeartbeats 8000000 in
set_option maxRecDepth 100000 in
theorem cut_calls (w : World) (st id val : Int) (A : Option Addr) (nA cA : Nat) (M : List S4) (B : Option Addr) (cb : Nat) (X : Option Addr) (nx cx : Nat) (c4 c6 c7 c8 c9 c10 c11 c12 c13 c14 c15 c16 : Value) (hA : nA ≤ cA) (hM : M.length ≤ cb) (hr : Kd.C k4 w B M.length M) (o4 : c4.oneCell' = true) (o6 : c6.oneCell' = true) (o7 : c7.oneCell' = true) (o8 : c8.oneCell' = true) (o9 : c9.oneCell' = true) (o10 : c10.oneCell' = true) (o11 : c11.oneCell' = true) (o12 : c12.oneCell' = true) (o13 : c13.oneCell' = true) (o14 : c14.oneCell' = true) (o15 : c15.oneCell' = true) (o16 : c16.oneCell' = true) :
    Calls Try.prog 49 #[.agg #[.int .i64 st, .int .i64 id, .int .i64 val, .slice A nA cA, c4, .slice B M.length cb, c6, c7, c8, c9, c10, c11, c12, c13, c14, c15, c16, .slice X nx cx]] w fun e w' => (∃ d0 d1 d2 d3 d4 d5 d6 d7 d8 d9 d10 d11 d12 d13 d14 d15 d16 d17, e = .returned (.agg #[d0, d1, d2, d3, d4, d5, d6, d7, d8, d9, d10, d11, d12, d13, d14, d15, d16, d17])) ∧ Below w.heap.size w w' := by
  have hmax : M.length ≤ 9223372036854775807 := hr.2.1
  have HR := Aside0.mk hr
  clear hr
  go_enter Try.func49, Try.ntmps49
  rcases Nat.lt_or_ge 40 M.length with h40 | h40
  · have hd : ((40 : Int) < (M.length : Int)) = True := eq_true (by omega)
    go_wp2_with fail
    clear hd
    have HX := Aside0.mk (blk_alloc (blk_new w (.cells #[.int .i64 st, .int .i64 id, .int .i64 val, .slice A nA cA, c4, .slice B 40 cb, c6, c7, c8, c9, c10, c11, c12, c13, c14, c15, c16, .slice X nx cx] 81)) (.cells #[.int .i64 0, .int .i64 0, .int .i64 0, .slice none 0 0, .bool false, .slice none 0 0, .bool false, .bool false, .bool false, .bool false, .bool false, .int .i64 0, .int .i64 0, .int .i64 0, .int .i64 0, .int .i64 0, .int .i64 0, .slice none 0 0] 81))
    have HY := Aside0.mk (blk_new (w.alloc (.cells #[.int .i64 st, .int .i64 id, .int .i64 val, .slice A nA cA, c4, .slice B 40 cb, c6, c7, c8, c9, c10, c11, c12, c13, c14, c15, c16, .slice X nx cx] 81)) (.cells #[.int .i64 0, .int .i64 0, .int .i64 0, .slice none 0 0, .bool false, .slice none 0 0, .bool false, .bool false, .bool false, .bool false, .bool false, .int .i64 0, .int .i64 0, .int .i64 0, .int .i64 0, .int .i64 0, .int .i64 0, .slice none 0 0] 81))
    have HB := Aside0.mk (below_alloc (below_alloc (Below.refl w.heap.size w) (.cells #[.int .i64 st, .int .i64 id, .int .i64 val, .slice A nA cA, c4, .slice B 40 cb, c6, c7, c8, c9, c10, c11, c12, c13, c14, c15, c16, .slice X nx cx] 81)) (.cells #[.int .i64 0, .int .i64 0, .int .i64 0, .slice none 0 0, .bool false, .slice none 0 0, .bool false, .bool false, .bool false, .bool false, .bool false, .int .i64 0, .int .i64 0, .int .i64 0, .int .i64 0, .int .i64 0, .int .i64 0, .slice none 0 0] 81))
    have hz : ((w.alloc (.cells #[.int .i64 st, .int .i64 id, .int .i64 val, .slice A nA cA, c4, .slice B 40 cb, c6, c7, c8, c9, c10, c11, c12, c13, c14, c15, c16, .slice X nx cx] 81)).alloc (.cells #[.int .i64 0, .int .i64 0, .int .i64 0, .slice none 0 0, .bool false, .slice none 0 0, .bool false, .bool false, .bool false, .bool false, .bool false, .int .i64 0, .int .i64 0, .int .i64 0, .int .i64 0, .int .i64 0, .int .i64 0, .slice none 0 0] 81)).heap.size = w.heap.size + 1 + 1 := by rw [World.size_alloc, World.size_alloc]
    rw [World.size_alloc] at HY
    generalize ((w.alloc (.cells #[.int .i64 st, .int .i64 id, .int .i64 val, .slice A nA cA, c4, .slice B 40 cb, c6, c7, c8, c9, c10, c11, c12, c13, c14, c15, c16, .slice X nx cx] 81)).alloc (.cells #[.int .i64 0, .int .i64 0, .int .i64 0, .slice none 0 0, .bool false, .slice none 0 0, .bool false, .bool false, .bool false, .bool false, .bool false, .int .i64 0, .int .i64 0, .int .i64 0, .int .i64 0, .int .i64 0, .int .i64 0, .slice none 0 0] 81)) = w3 at HX HY HB hz ⊢
    rw [← hz]
    have HO0 := Aside0.mk (R_empty w3)
    have HB0 := Aside0.mk (below_alloc (Below.refl w3.heap.size w3) (.cells #[] 86))
    generalize w3.alloc (.cells #[] 86) = w4 at HO0 HB0 ⊢
    generalize Value.slice (some ⟨w3.heap.size, 0, none⟩) 0 0 = v30 at HO0 ⊢
    go_loopw [3, 4] (fun v3 v4 wr => ∃ (k : Nat) (xs : List S4), v4 = .int .i64 (k : Int) ∧ k ≤ 40 ∧ xs.length = k ∧ Aside0 (Kd.R k4 86 wr w3.heap.size (fun _ => True) v3 xs) ∧ Aside0 (Below w3.heap.size w3 wr)) (fun _ v4 _ => (40 - (intOf v4)).toNat)
    case atStart => exact ⟨0, [], rfl, Nat.zero_le _, rfl, HO0, HB0⟩
    case round =>
      obtain ⟨k, xs, rfl, hk, hxs, HO, HBr⟩ := hrel
      have HXr := Aside0.mk (blk_below HX.out HBr.out)
      have HYr := Aside0.mk (blk_below HY.out HBr.out)
      have HBw := Aside0.mk (below_then HB.out HB.out.size HBr.out)
      have hlw : w.heap.size < wr.heap.size := blk_lt HXr.out
      have hne : (w.heap.size = wr.heap.size) = False := eq_false (by omega)
      have hc5 : wr.cell? ⟨w.heap.size, 5, none⟩ = some (.slice B 40 cb) := (blk_cell HXr.out 5).trans rfl
      obtain ⟨A5, d5, hA5, -⟩ := Kd.R_reads HO.out
      rw [hxs] at hA5
      subst hA5
      rcases Nat.lt_or_ge k (40) with hlt | hge
      · have hlt1 : ((k : Int) < (40 : Int)) = True := eq_true (by omega)
        obtain ⟨ad, hB, hx0, hx1, hx2, hx3⟩ := at4 HR.out (k : Int) (by omega) (by omega)
        subst hB
        have hgd : ∀ {a v}, w.cell? a = some v → wr.cell? a = some v := fun h => (HBw.out.cell (World.block_lt_of_cell? _ _ h)).trans h
        replace hx0 := hgd hx0
        replace hx1 := hgd hx1
        replace hx2 := hgd hx2
        replace hx3 := hgd hx3
        rw [Int.toNat_natCast] at hx0 hx1 hx2 hx3
        clear hgd
        generalize rd4 M (k : Int) = m at hx0 hx1 hx2 hx3
        go_wp2_with (first | ((with_reducible refine gate_builtin (b := .append) (xs := #[.tmp 31, .tmp 33]) rfl ?_); at_builtin; refine Kd.R_append k4 (w0 := w3) w3.heap.size rfl (.tmp 31) (.tmp 33) 75 86 (.agg #[.int .i64 0, .int .i64 0, .int .i64 0, .int .i64 0]) 32 rfl Try.underlying75 info86 rfl (by decide) (by omega) (.slice A5 k d5) xs (⟨m.f0, m.f1, m.f2, Int.tmod m.f3 1099511627776⟩ : S4) [.int .i64 m.f0, .int .i64 m.f1, .int .i64 m.f2, .int .i64 (Int.tmod m.f3 1099511627776)] (fun _ => True) (fun _ => False) rfl (by show Value.slice (some ⟨_, 0, none⟩) 1 1 = _; rw [World.size_alloc]) ?aP (fun _ hk => hk.elim) ?aF ?aO ?aB ?aS ?aL ?_; (case aP => exact k4_mkM _ _ _ (⟨m.f0, m.f1, m.f2, Int.tmod m.f3 1099511627776⟩ : S4)); (case aB => exact below_alloc HBr.out _); (case aF => exact fun _ _ => trivial); (case aO => exact Kd.R_alloc HO.out _); (case aS => exact (below_alloc HBr.out _).size); (case aL => rw [hxs]; omega); intro v1 w9 ho hb hg hat; have HO9 := Aside0.mk ho; have HB9 := Aside0.mk hb; clear ho hb hg hat))
        go_roundw
        case rel => exact ⟨k + 1, xs ++ [_], by go_num, by omega, by rw [List.length_append, hxs]; rfl, HO9, HB9⟩
        case measure => simp [intOf]; omega
      · have hk1 : k = 40 := by omega
        subst hk1
        have hf5 := blk_frozen HXr.out 5
        clear HO HX HY HB HBr HO0 HB0
        go_wp2_with (first | ((with_reducible refine gate_store (t := 75) (p := 36) rfl ?_); refine store_at rfl rfl (g := w.heap.size) (j := 5) (v := .slice A5 (40) d5) (by first | (go_simp; done) | (go_simp; rfl)) ?_; intro w9 hw; have n0 := after_set hw HXr.out; have n1 := after_far hw HYr.out (Nat.succ_ne_self _); have n2 := after_below hw HBw.out (Nat.le_refl _); simp only [List.setIfInBounds_toArray, List.set_cons_zero, List.set_cons_succ] at n0; clear hw HXr HYr HBw hc5 hf5; have HXr := Aside0.mk n0; have HYr := Aside0.mk n1; have HBw := Aside0.mk n2; clear n0 n1 n2; have hlw : w.heap.size < w9.heap.size := blk_lt HXr.out; have hne : (w.heap.size = w9.heap.size) = False := eq_false (by omega); have hc2 : _ = some (Value.int .i64 val) := (blk_cell HXr.out 2).trans rfl; have hf2 := blk_frozen HXr.out 2) | ((with_reducible refine gate_store (t := 2) (p := 42) rfl ?_); refine store_at rfl rfl (g := w.heap.size) (j := 2) (v := .int .i64 (Int.tmod val 1099511627776)) (by first | (go_simp; done) | (go_simp; rfl)) ?_; intro w9 hw; have n0 := after_set hw HXr.out; have n1 := after_far hw HYr.out (Nat.succ_ne_self _); have n2 := after_below hw HBw.out (Nat.le_refl _); simp only [List.setIfInBounds_toArray, List.set_cons_zero, List.set_cons_succ] at n0; clear hw HXr HYr HBw hc2 hf2; have HXr := Aside0.mk n0; have HYr := Aside0.mk n1; have HBw := Aside0.mk n2; clear n0 n1 n2; have hlw : w.heap.size < w9.heap.size := blk_lt HXr.out; have hne : (w.heap.size = w9.heap.size) = False := eq_false (by omega); have hc3 : _ = some (Value.slice A nA cA) := (blk_cell HXr.out 3).trans rfl; have hf3 := blk_frozen HXr.out 3; have hc17 : _ = some (Value.slice X nx cx) := (blk_cell HXr.out 17).trans rfl; have hf17 := blk_frozen HXr.out 17; have hc0 : _ = some (Value.int .i64 st) := (blk_cell HXr.out 0).trans rfl; have hf0 := blk_frozen HXr.out 0) | ((with_reducible refine gate_store (t := 51) (p := 53) rfl ?_); refine store_at rfl rfl (g := w.heap.size) (j := 3) (v := .slice A 40 cA) (by first | (go_simp; done) | (go_simp; rfl)) ?_; intro w9 hw; have n0 := after_set hw HXr.out; have n1 := after_far hw HYr.out (Nat.succ_ne_self _); have n2 := after_below hw HBw.out (Nat.le_refl _); simp only [List.setIfInBounds_toArray, List.set_cons_zero, List.set_cons_succ] at n0; clear hw HXr HYr HBw hc3 hf3 hc17 hf17 hc0 hf0; have HXr := Aside0.mk n0; have HYr := Aside0.mk n1; have HBw := Aside0.mk n2; clear n0 n1 n2; have hlw : w.heap.size < w9.heap.size := blk_lt HXr.out; have hne : (w.heap.size = w9.heap.size) = False := eq_false (by omega); have hc17 : _ = some (Value.slice X nx cx) := (blk_cell HXr.out 17).trans rfl; have hf17 := blk_frozen HXr.out 17; have hc0 : _ = some (Value.int .i64 st) := (blk_cell HXr.out 0).trans rfl; have hf0 := blk_frozen HXr.out 0) | ((with_reducible refine gate_store (t := 65) (p := 59) rfl ?_); refine store_at rfl rfl (g := w.heap.size) (j := 17) (v := .slice (some ⟨w9.heap.size, 0, none⟩) 1 1) (by first | (go_simp; done) | (go_simp; rfl)) ?_; intro w9 hw; have n0 := after_set hw (blk_alloc HXr.out _); have n1 := after_far hw (blk_alloc HYr.out _) (Nat.succ_ne_self _); have n2 := after_below hw (below_alloc HBw.out _) (Nat.le_refl _); simp only [List.setIfInBounds_toArray, List.set_cons_zero, List.set_cons_succ] at n0; clear hw HXr HYr HBw hc17 hf17 hc0 hf0; have HXr := Aside0.mk n0; have HYr := Aside0.mk n1; have HBw := Aside0.mk n2; clear n0 n1 n2; have hlw : w.heap.size < w9.heap.size := blk_lt HXr.out; have hne : (w.heap.size = w9.heap.size) = False := eq_false (by omega); have hc0 : _ = some (Value.int .i64 st) := (blk_cell HXr.out 0).trans rfl; have hf0 := blk_frozen HXr.out 0) | ((with_reducible refine gate_store (t := 3) (p := 63) rfl ?_); refine store_at rfl rfl (g := w.heap.size) (j := 0) (v := .int .i64 0) (by first | (go_simp; done) | (go_simp; rfl)) ?_; intro w9 hw; have n0 := after_set hw HXr.out; have n1 := after_far hw HYr.out (Nat.succ_ne_self _); have n2 := after_below hw HBw.out (Nat.le_refl _); simp only [List.setIfInBounds_toArray, List.set_cons_zero, List.set_cons_succ] at n0; clear hw HXr HYr HBw hc0 hf0; have HXr := Aside0.mk n0; have HYr := Aside0.mk n1; have HBw := Aside0.mk n2; clear n0 n1 n2; have hlw : w.heap.size < w9.heap.size := blk_lt HXr.out; have hne : (w.heap.size = w9.heap.size) = False := eq_false (by omega)) | ((with_reducible refine gate_dst (N := 64) rfl ?_); refine wpList_load_row rfl 81 (.tmp 1) rfl w.heap.size rfl 81 _ (0, 0) _ HXr.out Try.underlying81 rfl (by kernel_rfl) ?_) | ((with_reducible refine gate_store (t := 81) (p := 2) rfl ?_); refine wpList_store_row rfl 81 (.tmp 2) (.tmp 64) rfl (w.heap.size + 1) _ rfl rfl 81 _ HYr.out (by kernel_rfl) rfl (one18 rfl rfl rfl rfl o4 rfl o6 o7 o8 o9 o10 o11 o12 o13 o14 o15 o16 rfl) ?_))
        all_goals refine bodyPost_ret (results_cell_row rfl _ _ (w.heap.size + 1) 81 _ (0, 0) _ rfl (setRow_heap _ _ _ _ _ _ HYr.out) Try.underlying81 rfl (by kernel_rfl)) rfl ?_
        all_goals exact ⟨⟨_, _, _, _, _, _, _, _, _, _, _, _, _, _, _, _, _, _, rfl⟩, below_setRow HBw.out (Nat.le_succ _) _⟩
  · have hd : ((40 : Int) < (M.length : Int)) = False := eq_false (by omega)
    go_wp2_with fail
    clear hd
    have HX := Aside0.mk (blk_alloc (blk_new w (.cells #[.int .i64 st, .int .i64 id, .int .i64 val, .slice A nA cA, c4, .slice B M.length cb, c6, c7, c8, c9, c10, c11, c12, c13, c14, c15, c16, .slice X nx cx] 81)) (.cells #[.int .i64 0, .int .i64 0, .int .i64 0, .slice none 0 0, .bool false, .slice none 0 0, .bool false, .bool false, .bool false, .bool false, .bool false, .int .i64 0, .int .i64 0, .int .i64 0, .int .i64 0, .int .i64 0, .int .i64 0, .slice none 0 0] 81))
    have HY := Aside0.mk (blk_new (w.alloc (.cells #[.int .i64 st, .int .i64 id, .int .i64 val, .slice A nA cA, c4, .slice B M.length cb, c6, c7, c8, c9, c10, c11, c12, c13, c14, c15, c16, .slice X nx cx] 81)) (.cells #[.int .i64 0, .int .i64 0, .int .i64 0, .slice none 0 0, .bool false, .slice none 0 0, .bool false, .bool false, .bool false, .bool false, .bool false, .int .i64 0, .int .i64 0, .int .i64 0, .int .i64 0, .int .i64 0, .int .i64 0, .slice none 0 0] 81))
    have HB := Aside0.mk (below_alloc (below_alloc (Below.refl w.heap.size w) (.cells #[.int .i64 st, .int .i64 id, .int .i64 val, .slice A nA cA, c4, .slice B M.length cb, c6, c7, c8, c9, c10, c11, c12, c13, c14, c15, c16, .slice X nx cx] 81)) (.cells #[.int .i64 0, .int .i64 0, .int .i64 0, .slice none 0 0, .bool false, .slice none 0 0, .bool false, .bool false, .bool false, .bool false, .bool false, .int .i64 0, .int .i64 0, .int .i64 0, .int .i64 0, .int .i64 0, .int .i64 0, .slice none 0 0] 81))
    have hz : ((w.alloc (.cells #[.int .i64 st, .int .i64 id, .int .i64 val, .slice A nA cA, c4, .slice B M.length cb, c6, c7, c8, c9, c10, c11, c12, c13, c14, c15, c16, .slice X nx cx] 81)).alloc (.cells #[.int .i64 0, .int .i64 0, .int .i64 0, .slice none 0 0, .bool false, .slice none 0 0, .bool false, .bool false, .bool false, .bool false, .bool false, .int .i64 0, .int .i64 0, .int .i64 0, .int .i64 0, .int .i64 0, .int .i64 0, .slice none 0 0] 81)).heap.size = w.heap.size + 1 + 1 := by rw [World.size_alloc, World.size_alloc]
    rw [World.size_alloc] at HY
    generalize ((w.alloc (.cells #[.int .i64 st, .int .i64 id, .int .i64 val, .slice A nA cA, c4, .slice B M.length cb, c6, c7, c8, c9, c10, c11, c12, c13, c14, c15, c16, .slice X nx cx] 81)).alloc (.cells #[.int .i64 0, .int .i64 0, .int .i64 0, .slice none 0 0, .bool false, .slice none 0 0, .bool false, .bool false, .bool false, .bool false, .bool false, .int .i64 0, .int .i64 0, .int .i64 0, .int .i64 0, .int .i64 0, .int .i64 0, .slice none 0 0] 81)) = w3 at HX HY HB hz ⊢
    rw [← hz]
    have HO0 := Aside0.mk (R_empty w3)
    have HB0 := Aside0.mk (below_alloc (Below.refl w3.heap.size w3) (.cells #[] 86))
    generalize w3.alloc (.cells #[] 86) = w4 at HO0 HB0 ⊢
    generalize Value.slice (some ⟨w3.heap.size, 0, none⟩) 0 0 = v30 at HO0 ⊢
    go_loopw [3, 4] (fun v3 v4 wr => ∃ (k : Nat) (xs : List S4), v4 = .int .i64 (k : Int) ∧ k ≤ M.length ∧ xs.length = k ∧ Aside0 (Kd.R k4 86 wr w3.heap.size (fun _ => True) v3 xs) ∧ Aside0 (Below w3.heap.size w3 wr)) (fun _ v4 _ => (M.length - (intOf v4)).toNat)
    case atStart => exact ⟨0, [], rfl, Nat.zero_le _, rfl, HO0, HB0⟩
    case round =>
      obtain ⟨k, xs, rfl, hk, hxs, HO, HBr⟩ := hrel
      have HXr := Aside0.mk (blk_below HX.out HBr.out)
      have HYr := Aside0.mk (blk_below HY.out HBr.out)
      have HBw := Aside0.mk (below_then HB.out HB.out.size HBr.out)
      have hlw : w.heap.size < wr.heap.size := blk_lt HXr.out
      have hne : (w.heap.size = wr.heap.size) = False := eq_false (by omega)
      have hc5 : wr.cell? ⟨w.heap.size, 5, none⟩ = some (.slice B M.length cb) := (blk_cell HXr.out 5).trans rfl
      obtain ⟨A5, d5, hA5, -⟩ := Kd.R_reads HO.out
      rw [hxs] at hA5
      subst hA5
      rcases Nat.lt_or_ge k (M.length) with hlt | hge
      · have hlt1 : ((k : Int) < (M.length : Int)) = True := eq_true (by omega)
        obtain ⟨ad, hB, hx0, hx1, hx2, hx3⟩ := at4 HR.out (k : Int) (by omega) (by omega)
        subst hB
        have hgd : ∀ {a v}, w.cell? a = some v → wr.cell? a = some v := fun h => (HBw.out.cell (World.block_lt_of_cell? _ _ h)).trans h
        replace hx0 := hgd hx0
        replace hx1 := hgd hx1
        replace hx2 := hgd hx2
        replace hx3 := hgd hx3
        rw [Int.toNat_natCast] at hx0 hx1 hx2 hx3
        clear hgd
        generalize rd4 M (k : Int) = m at hx0 hx1 hx2 hx3
        go_wp2_with (first | ((with_reducible refine gate_builtin (b := .append) (xs := #[.tmp 31, .tmp 33]) rfl ?_); at_builtin; refine Kd.R_append k4 (w0 := w3) w3.heap.size rfl (.tmp 31) (.tmp 33) 75 86 (.agg #[.int .i64 0, .int .i64 0, .int .i64 0, .int .i64 0]) 32 rfl Try.underlying75 info86 rfl (by decide) (by omega) (.slice A5 k d5) xs (⟨m.f0, m.f1, m.f2, Int.tmod m.f3 1099511627776⟩ : S4) [.int .i64 m.f0, .int .i64 m.f1, .int .i64 m.f2, .int .i64 (Int.tmod m.f3 1099511627776)] (fun _ => True) (fun _ => False) rfl (by show Value.slice (some ⟨_, 0, none⟩) 1 1 = _; rw [World.size_alloc]) ?aP (fun _ hk => hk.elim) ?aF ?aO ?aB ?aS ?aL ?_; (case aP => exact k4_mkM _ _ _ (⟨m.f0, m.f1, m.f2, Int.tmod m.f3 1099511627776⟩ : S4)); (case aB => exact below_alloc HBr.out _); (case aF => exact fun _ _ => trivial); (case aO => exact Kd.R_alloc HO.out _); (case aS => exact (below_alloc HBr.out _).size); (case aL => rw [hxs]; omega); intro v1 w9 ho hb hg hat; have HO9 := Aside0.mk ho; have HB9 := Aside0.mk hb; clear ho hb hg hat))
        go_roundw
        case rel => exact ⟨k + 1, xs ++ [_], by go_num, by omega, by rw [List.length_append, hxs]; rfl, HO9, HB9⟩
        case measure => simp [intOf]; omega
      · have hk1 : k = M.length := by omega
        subst hk1
        have hf5 := blk_frozen HXr.out 5
        clear HO HX HY HB HBr HO0 HB0
        go_wp2_with (first | ((with_reducible refine gate_store (t := 75) (p := 36) rfl ?_); refine store_at rfl rfl (g := w.heap.size) (j := 5) (v := .slice A5 (M.length) d5) (by first | (go_simp; done) | (go_simp; rfl)) ?_; intro w9 hw; have n0 := after_set hw HXr.out; have n1 := after_far hw HYr.out (Nat.succ_ne_self _); have n2 := after_below hw HBw.out (Nat.le_refl _); simp only [List.setIfInBounds_toArray, List.set_cons_zero, List.set_cons_succ] at n0; clear hw HXr HYr HBw hc5 hf5; have HXr := Aside0.mk n0; have HYr := Aside0.mk n1; have HBw := Aside0.mk n2; clear n0 n1 n2; have hlw : w.heap.size < w9.heap.size := blk_lt HXr.out; have hne : (w.heap.size = w9.heap.size) = False := eq_false (by omega); have hc2 : _ = some (Value.int .i64 val) := (blk_cell HXr.out 2).trans rfl; have hf2 := blk_frozen HXr.out 2) | ((with_reducible refine gate_store (t := 2) (p := 42) rfl ?_); refine store_at rfl rfl (g := w.heap.size) (j := 2) (v := .int .i64 (Int.tmod val 1099511627776)) (by first | (go_simp; done) | (go_simp; rfl)) ?_; intro w9 hw; have n0 := after_set hw HXr.out; have n1 := after_far hw HYr.out (Nat.succ_ne_self _); have n2 := after_below hw HBw.out (Nat.le_refl _); simp only [List.setIfInBounds_toArray, List.set_cons_zero, List.set_cons_succ] at n0; clear hw HXr HYr HBw hc2 hf2; have HXr := Aside0.mk n0; have HYr := Aside0.mk n1; have HBw := Aside0.mk n2; clear n0 n1 n2; have hlw : w.heap.size < w9.heap.size := blk_lt HXr.out; have hne : (w.heap.size = w9.heap.size) = False := eq_false (by omega); have hc3 : _ = some (Value.slice A nA cA) := (blk_cell HXr.out 3).trans rfl; have hf3 := blk_frozen HXr.out 3; have hc17 : _ = some (Value.slice X nx cx) := (blk_cell HXr.out 17).trans rfl; have hf17 := blk_frozen HXr.out 17; have hc0 : _ = some (Value.int .i64 st) := (blk_cell HXr.out 0).trans rfl; have hf0 := blk_frozen HXr.out 0) | ((with_reducible refine gate_store (t := 51) (p := 53) rfl ?_); refine store_at rfl rfl (g := w.heap.size) (j := 3) (v := .slice A 40 cA) (by first | (go_simp; done) | (go_simp; rfl)) ?_; intro w9 hw; have n0 := after_set hw HXr.out; have n1 := after_far hw HYr.out (Nat.succ_ne_self _); have n2 := after_below hw HBw.out (Nat.le_refl _); simp only [List.setIfInBounds_toArray, List.set_cons_zero, List.set_cons_succ] at n0; clear hw HXr HYr HBw hc3 hf3 hc17 hf17 hc0 hf0; have HXr := Aside0.mk n0; have HYr := Aside0.mk n1; have HBw := Aside0.mk n2; clear n0 n1 n2; have hlw : w.heap.size < w9.heap.size := blk_lt HXr.out; have hne : (w.heap.size = w9.heap.size) = False := eq_false (by omega); have hc17 : _ = some (Value.slice X nx cx) := (blk_cell HXr.out 17).trans rfl; have hf17 := blk_frozen HXr.out 17; have hc0 : _ = some (Value.int .i64 st) := (blk_cell HXr.out 0).trans rfl; have hf0 := blk_frozen HXr.out 0) | ((with_reducible refine gate_store (t := 65) (p := 59) rfl ?_); refine store_at rfl rfl (g := w.heap.size) (j := 17) (v := .slice (some ⟨w9.heap.size, 0, none⟩) 1 1) (by first | (go_simp; done) | (go_simp; rfl)) ?_; intro w9 hw; have n0 := after_set hw (blk_alloc HXr.out _); have n1 := after_far hw (blk_alloc HYr.out _) (Nat.succ_ne_self _); have n2 := after_below hw (below_alloc HBw.out _) (Nat.le_refl _); simp only [List.setIfInBounds_toArray, List.set_cons_zero, List.set_cons_succ] at n0; clear hw HXr HYr HBw hc17 hf17 hc0 hf0; have HXr := Aside0.mk n0; have HYr := Aside0.mk n1; have HBw := Aside0.mk n2; clear n0 n1 n2; have hlw : w.heap.size < w9.heap.size := blk_lt HXr.out; have hne : (w.heap.size = w9.heap.size) = False := eq_false (by omega); have hc0 : _ = some (Value.int .i64 st) := (blk_cell HXr.out 0).trans rfl; have hf0 := blk_frozen HXr.out 0) | ((with_reducible refine gate_store (t := 3) (p := 63) rfl ?_); refine store_at rfl rfl (g := w.heap.size) (j := 0) (v := .int .i64 0) (by first | (go_simp; done) | (go_simp; rfl)) ?_; intro w9 hw; have n0 := after_set hw HXr.out; have n1 := after_far hw HYr.out (Nat.succ_ne_self _); have n2 := after_below hw HBw.out (Nat.le_refl _); simp only [List.setIfInBounds_toArray, List.set_cons_zero, List.set_cons_succ] at n0; clear hw HXr HYr HBw hc0 hf0; have HXr := Aside0.mk n0; have HYr := Aside0.mk n1; have HBw := Aside0.mk n2; clear n0 n1 n2; have hlw : w.heap.size < w9.heap.size := blk_lt HXr.out; have hne : (w.heap.size = w9.heap.size) = False := eq_false (by omega)) | ((with_reducible refine gate_dst (N := 64) rfl ?_); refine wpList_load_row rfl 81 (.tmp 1) rfl w.heap.size rfl 81 _ (0, 0) _ HXr.out Try.underlying81 rfl (by kernel_rfl) ?_) | ((with_reducible refine gate_store (t := 81) (p := 2) rfl ?_); refine wpList_store_row rfl 81 (.tmp 2) (.tmp 64) rfl (w.heap.size + 1) _ rfl rfl 81 _ HYr.out (by kernel_rfl) rfl (one18 rfl rfl rfl rfl o4 rfl o6 o7 o8 o9 o10 o11 o12 o13 o14 o15 o16 rfl) ?_))
        all_goals refine bodyPost_ret (results_cell_row rfl _ _ (w.heap.size + 1) 81 _ (0, 0) _ rfl (setRow_heap _ _ _ _ _ _ HYr.out) Try.underlying81 rfl (by kernel_rfl)) rfl ?_
        all_goals exact ⟨⟨_, _, _, _, _, _, _, _, _, _, _, _, _, _, _, _, _, _, rfl⟩, below_setRow HBw.out (Nat.le_succ _) _⟩
end Go.Proofs.Ytbeefbhoccdicaa.CutK
