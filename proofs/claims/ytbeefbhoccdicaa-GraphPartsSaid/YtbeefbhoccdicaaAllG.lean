/- All edges of a graph, gone over: walked. -/
import Derived.RangeFuncNested
import Derived.RangeFuncBound
import Derived.RangeFuncCalls
import Derived.RangeFuncLeaves
import Derived.RangeFuncWrites
import Derived.Shelf.Abstract
import Derived.Shelf.RegionOpen
import Derived.WalkKit
import Derived.OwnWalkIn
import Derived.TacticsInMore
import Derived.LoopNIn
import Derived.LoopIn
import Derived.Test.YtbeefbhoccdicaaEdgesG
namespace Go.Proofs.Ytbeefbhoccdicaa.AllG
open Go.RowKit Go.Shelf Go.Proofs.YtbeefbhoccdicaaW.PrintWords Go.Proofs.YtbeefbhoccdicaaW.PrintLast Go.Proofs.YtbeefbhoccdicaaW.PrintMore Go.Proofs.Ytbeefbhoccdicaa.QGraphReads Go.Proofs.Ytbeefbhoccdicaa.WireNum Go.Proofs.Ytbeefbhoccdicaa.PutG Go.Proofs.Ytbeefbhoccdicaa.FindG Go.Proofs.Ytbeefbhoccdicaa.EdgesG
attribute [local go_sem] Oper.semAt_some
set_option linter.unusedVariables false

/-- All edges, with where each begins. -/
def ofV (v : S53) : List (Int × S67) := v.f2.map fun e => (v.f0, e)
def allOf (l : List S53) : List (Int × S67) := l.flatMap ofV
def encE (x : Int × S67) : Array Value := #[.int .i64 x.1, .agg #[.int .i64 x.2.f0, .int .i64 x.2.f1]]

/-- What a round keeps: what lay below, and blocks of these types. -/
def KpT (ts : TypeId → Prop) (n0 : Nat) (W W1 : World) : Prop := Below n0 W W1 ∧ ∀ (i : Nat) (cs : Array Value) (t : TypeId), ts t → W.heap[i]? = some (.cells cs t (0, 0)) → W1.heap[i]? = some (.cells cs t (0, 0))
theorem kpT_t {ts : TypeId → Prop} {n0 : Nat} {A B C : World} (h : KpT ts n0 A B) (k : KpT ts n0 B C) : KpT ts n0 A C := ⟨h.1.trans k.1, fun i cs t ht hc => k.2 i cs t ht (h.2 i cs t ht hc)⟩
theorem kpT_b {ts : TypeId → Prop} {n0 : Nat} {w : World} (hn : n0 ≤ w.heap.size) (W : World) (l : Nat) (o o' : Obj) (hl : w.heap.size ≤ l) (h : W.heap[l]? = some o) (hc : o.isCells = false) (hw : o.isWalk = false) : KpT ts n0 W (W.putObj l o') := by
  refine ⟨belowK_b hn W l o o' hl h hc hw, fun i cs t ht hi => ?_⟩
  refine (World.putObj_heap_other ?_).trans hi
  rintro rfl
  rw [h] at hi
  injection hi with hi
  rw [hi] at hc
  cases hc
theorem kpT_alloc {ts : TypeId → Prop} {n0 : Nat} {W : World} (hn : n0 ≤ W.heap.size) (o : Obj) : KpT ts n0 W (W.alloc o) := ⟨(Below.refl _ _).alloc hn _, fun i cs t _ h => blk_alloc h o⟩
theorem kpT_set {ts : TypeId → Prop} {n0 g : Nat} {W : World} {c : Array Value} {t : TypeId} (hn : n0 ≤ g) (hb : W.heap[g]? = some (.cells c t (0, 0))) (ht : ¬ ts t) (j : Nat) (u : Value) : KpT ts n0 W (W.setCell ⟨g, j, none⟩ u) := by
  refine ⟨(Below.refl n0 W).setCell (p := ⟨g, j, none⟩) hn u, fun i cs t' ht' h => ?_⟩
  exact blk_far h (by intro hi; have hi : i = g := hi; rw [hi, hb] at h; injection h with h; injection h with _ h _; rw [h] at ht; exact ht ht') u

theorem all_in (F : Fence) (n : Nat) (h39 : F.fn 39) (hro : F.round = none) (A : Option Addr) (m c : Nat) (w : World) :
    CallsIn F n Try.prog 39 #[.agg #[.slice A m c]] w fun e w' => e = .returned (.func (.func 91) #[] #[.pointer (some ⟨w.heap.size, 0, none⟩)]) ∧ w' = w.alloc (.cells #[.slice A m c] 24) := by
  refine callsIn_of_wp Try.func39 rfl h39 ?_ hro
  simp only [Try.ntmps39, List.size_toArray, List.length_cons, List.length_nil, Nat.reduceAdd, Nat.reduceSub, Array.replicate_succ, Array.replicate_zero, List.push_toArray, List.append_toArray, List.nil_append, List.cons_append]
  gi_wp2
  go_ret
  exact ⟨rfl, rfl⟩

theorem allOf_snoc (l : List S53) (v : S53) : allOf (l ++ [v]) = allOf l ++ ofV v := by simp [allOf]
theorem pre_lt (l : List S53) (k : Nat) (v : S53) (j : Nat) (hj : j < v.f2.length) :
    allOf (l.take k) ++ (ofV v).take j ++ [(v.f0, v.f2.getD j z67)] = allOf (l.take k) ++ (ofV v).take (j + 1) := by
  have h : (ofV v).getD j (0, z67) = (v.f0, v.f2.getD j z67) := by
    unfold ofV
    rw [List.getD_eq_getElem?_getD, List.getD_eq_getElem?_getD, List.getElem?_map, List.getElem?_eq_getElem hj]
    rfl
  rw [List.append_assoc, take_one (ofV v) j (0, z67) (by rw [ofV, List.length_map]; exact hj), h]
theorem pre_pre (l : List S53) (k : Nat) (hk : k < l.length) (j : Nat) : allOf (l.take k) ++ (ofV (l.getD k z53)).take j <+: allOf l := by
  have h1 : allOf (l.take (k + 1)) <+: allOf l := by
    have : allOf l = allOf (l.take (k + 1)) ++ allOf (l.drop (k + 1)) := by rw [allOf, allOf, allOf, ← List.flatMap_append, List.take_append_drop]
    rw [this]
    exact List.prefix_append _ _
  rw [take_one l k z53 hk, allOf_snoc] at h1
  exact List.IsPrefix.trans ((List.prefix_append_right_inj _).2 (List.take_prefix _ _)) h1
theorem pre_len (l : List S53) (k : Nat) (hk : k < l.length) (j : Nat) (hj : j < (l.getD k z53).f2.length) : (allOf (l.take k) ++ (ofV (l.getD k z53)).take j).length < (allOf l).length := by
  have h := (pre_pre l k hk (j + 1)).length_le
  rw [← pre_lt l k _ j hj, List.length_append] at h
  simp only [List.length_cons, List.length_nil] at h
  omega

set_option maxRecDepth 100000 in
set_option maxHeartbeats 4000000 in
theorem all1_in (F : Fence) (n : Nat) (h91 : F.fn 91) (hro : F.round = none) (hn : 1 ≤ n) (l Bs : Nat) (w0 : World) (L : List S53) (A : Option Addr) (c : Nat) (hr : Kd.C k53 w0 A L.length L) (J Jx : List (Int × S67) → World → Prop) (W : World)
    (hJ : AbidesFrom W.heap.size J)
    (hY : ∀ pre x W1, J pre W1 → pre.length < (allOf L).length → YieldAt F (n - 1) Try.prog l (encE x) W1 fun e W' =>
      (e = .returned (.bool true) ∧ J (pre ++ [x]) W' ∧ KpT (fun t => t = 53) w0.heap.size W1 W') ∨ (e = .returned (.bool false) ∧ Jx (pre ++ [x]) W'))
    (hB : Below w0.heap.size w0 W) (hBs : W.cell? ⟨Bs, 0, none⟩ = some (.slice A L.length c)) (h0 : J [] W) :
    CallsIn F n Try.prog 91 #[.func (.yield l) #[] #[], .pointer (some ⟨Bs, 0, none⟩)] W fun e W' => (∃ v, e = .returned v) ∧
      ((∃ ys, ys = allOf L ∧ J ys W') ∨ (∃ pre, pre <+: allOf L ∧ Jx pre W')) := by
  have hmax : L.length ≤ 9223372036854775807 := hr.2.1
  have HR := Aside0.mk hr
  have HB := Aside0.mk hB
  have HJ0 := Aside0.mk h0
  have hal : ∀ (pre : List (Int × S67)) (W1 : World) (o : Obj), J pre W1 → J pre (W1.alloc o) := fun pre W1 o h => hJ pre W1 _ none h (World.grownBy_alloc W1 o none) (fun r e => by cases e)
  have HAL := Aside0.mk hal
  have HYY := Aside0.mk hY
  clear hr hB h0 hJ hal hY
  refine callsIn_of_wp Try.func91 rfl h91 ?_ hro
  simp only [Try.ntmps91, List.size_toArray, List.length_cons, List.length_nil, Nat.reduceAdd, Nat.reduceSub, Array.replicate_succ, Array.replicate_zero, List.push_toArray, List.append_toArray, List.nil_append, List.cons_append]
  gi_wp2
  gi_loopw [10] (fun v10 wr => ∃ k : Nat, v10 = .int .i64 (k : Int) ∧ k ≤ L.length ∧ Aside0 (J (allOf (L.take k)) wr) ∧ Aside0 (Below w0.heap.size w0 wr)) (fun v10 _ => (L.length - (intOf v10)).toNat)
  case atStart => exact ⟨0, rfl, Nat.zero_le _, HJ0, HB⟩
  case round =>
    obtain ⟨k, rfl, hk, HJr, HBr⟩ := hrel
    rcases Nat.lt_or_ge k L.length with hlt | hge
    · have hlt1 : ((k : Int) < (L.length : Int)) = True := eq_true (by omega)
      obtain ⟨ad, A2, c2, hA, hx0, hx1, hx2, hl2, hr2⟩ := at_T53 HR.out (k : Int) (by omega) (by omega)
      subst hA
      have hmax2 : (rd_T53 L (k : Int)).f2.length ≤ 9223372036854775807 := hr2.2.1
      have HR2 := Aside0.mk hr2
      clear hr2
      replace hx0 := (HBr.out.cell (World.block_lt_of_cell? _ _ hx0)).trans hx0
      replace hx1 := (HBr.out.cell (World.block_lt_of_cell? _ _ hx1)).trans hx1
      replace hx2 := (HBr.out.cell (World.block_lt_of_cell? _ _ hx2)).trans hx2
      rw [Int.toNat_natCast] at hx0 hx1 hx2
      have hed : L.getD k z53 = rd_T53 L (k : Int) := rfl
      generalize rd_T53 L (k : Int) = ed at *
      have HED := Aside0.mk hed
      clear hed
      have hsz0 : w0.heap.size ≤ wr.heap.size := HBr.out.size
      have hbx := blk_new wr (.cells #[.int .i64 ed.f0, .int .i64 ed.f1, .slice A2 ed.f2.length c2] 53)
      obtain ⟨b4, hb4⟩ : ∃ b4, wr.heap.size = b4 := ⟨_, rfl⟩
      have HBX := Aside0.mk hbx
      clear hbx
      rw [hb4] at HBX
      gi_wp2
      gi_loopw [17] (fun v17 wr => ∃ j : Nat, v17 = .int .i64 (j : Int) ∧ j ≤ ed.f2.length ∧ Aside0 (J (allOf (L.take k) ++ (ofV ed).take j) wr) ∧ Aside0 (Below w0.heap.size w0 wr) ∧ Aside0 (wr.heap[b4]? = some (.cells #[.int .i64 ed.f0, .int .i64 ed.f1, .slice A2 ed.f2.length c2] 53 (0, 0)))) (fun v17 _ => (ed.f2.length - (intOf v17)).toNat)
      case atStart => exact ⟨0, rfl, Nat.zero_le _, ⟨by rw [List.take_zero, List.append_nil]; exact HAL.out _ _ _ HJr.out⟩, ⟨HBr.out.alloc hsz0 _⟩, HBX⟩
      case round =>
        clear hx0 hx1 hx2 hb4
        obtain ⟨j, rfl, hj, HJs, HBs, BX⟩ := hrel
        rcases Nat.lt_or_ge j ed.f2.length with hlj | hge
        · have hlj1 : ((j : Int) < (ed.f2.length : Int)) = True := eq_true (by omega)
          obtain ⟨ad2, hA2, hy0, hy1⟩ := at_T67 HR2.out (j : Int) (by omega) (by omega)
          subst hA2
          replace hy0 := (HBs.out.cell (World.block_lt_of_cell? _ _ hy0)).trans hy0
          replace hy1 := (HBs.out.cell (World.block_lt_of_cell? _ _ hy1)).trans hy1
          rw [Int.toNat_natCast] at hy0 hy1
          have he : ed.f2.getD j z67 = rd_T67 ed.f2 (j : Int) := rfl
          generalize rd_T67 ed.f2 (j : Int) = ee at *
          have HE := Aside0.mk he
          clear he
          have hbs : b4 < wr.heap.size := blk_lt BX.out
          have hne1 : (b4 = wr.heap.size) = False := eq_false (by omega)
          have hb0 : wr.cell? ⟨b4, 0, none⟩ = some (.int .i64 ed.f0) := (blk_cell BX.out 0).trans rfl
          obtain ⟨fn, tmps, assign, body, hy, hR⟩ := HYY.out _ (ed.f0, ee) (wr.alloc (.cells #[.int .i64 ee.f0, .int .i64 ee.f1] 67)) (HAL.out _ _ _ HJs.out) (by have h := pre_len L k hlt j (by rw [HED.out]; exact hlj); rw [HED.out] at h; exact h)
          dsimp only [encE] at hy
          gi_wp2
          refine hR.mono ?_
          rintro e W3 (⟨rfl, hJ3, hk3⟩ | ⟨rfl, hJx3⟩)
          · have HJ3 := Aside0.mk hJ3
            have HK3 := Aside0.mk hk3
            clear hJ3 hk3 hR
            gi_wp2
            go_roundw
            case rel =>
              refine ⟨j + 1, by go_num, by omega, ⟨?_⟩, ⟨(HBs.out.alloc HBs.out.size _).trans HK3.out.1⟩, ⟨HK3.out.2 _ _ _ rfl (blk_alloc BX.out _)⟩⟩
              have h := HJ3.out
              rw [← HE.out, pre_lt L k ed j hlj] at h
              exact h
            case measure => simp [intOf]; omega
          · have HJ3 := Aside0.mk hJx3
            clear hJx3 hR
            gi_wp2
            refine bodyPost_ret (results_none rfl _ _ _) rfl ?_
            refine ⟨⟨_, rfl⟩, .inr ⟨_, ?_, HJ3.out⟩⟩
            rw [← HE.out, pre_lt L k ed j hlj]
            have h := pre_pre L k hlt (j + 1)
            rw [HED.out] at h
            exact h
        · obtain rfl : j = ed.f2.length := by omega
          gi_wp2
          go_roundw
          case rel =>
            refine ⟨k + 1, by go_num, by omega, ⟨?_⟩, HBs⟩
            have h := HJs.out
            have ht : (ofV ed).take ed.f2.length = ofV ed := List.take_of_length_le (by simp [ofV])
            rw [ht] at h
            rw [take_one L k z53 hlt, allOf_snoc, HED.out]
            exact h
          case measure => simp [intOf]; omega
    · obtain rfl : k = L.length := by omega
      gi_wp2
      go_end0
      have h := HJr.out
      rw [List.take_length] at h
      exact ⟨⟨_, rfl⟩, .inl ⟨_, rfl, h⟩⟩

/-- The iterator's contract. -/
theorem all_stops (F : Fence) (n : Nat) (h91 : F.fn 91) (hro : F.round = none) (hn : 1 ≤ n) (Bs : Nat) (w0 w : World) (L : List S53) (A : Option Addr) (c : Nat) (hr : Kd.C k53 w0 A L.length L) (hB : Below w0.heap.size w0 w) (hBs : w.cell? ⟨Bs, 0, none⟩ = some (.slice A L.length c)) :
    SeqStopsK F n Try.prog 91 #[.pointer (some ⟨Bs, 0, none⟩)] encE (KpT (fun t => t = 53) w0.heap.size) (fun ys => ys = allOf L) (fun pre => pre <+: allOf L) (allOf L).length w := fun l J Jx W hW hJ _ hY h0 => by
  exact all1_in F n h91 hro hn l Bs w0 L A c hr J Jx W hJ hY (below_then hB hB.size hW) ((hW.cell (World.block_lt_of_cell? _ _ hBs)).trans hBs) h0

theorem allOf_length (l : List S53) : (allOf l).length = l.foldr (fun v n => v.f2.length + n) 0 := by
  induction l with
  | nil => rfl
  | cons v t ih => rw [allOf, List.flatMap_cons, List.length_append, List.foldr_cons, ← ih, ofV, List.length_map]; rfl

theorem blk_own {β : Type} (g : Nat) (t : TypeId) (cs : β → Array Value) : Own (fun (s : β) (W : World) => W.heap[g]? = some (.cells (cs s) t (0, 0))) := by
  intro s W W' row hs hg hr
  refine blk_grown hs hg ?_
  intro h
  obtain ⟨o, ho, hc⟩ := hr g h.symm
  rw [hs] at ho
  injection ho with ho
  rw [← ho] at hc
  cases hc

set_option maxRecDepth 100000 in
set_option maxHeartbeats 4000000 in
theorem edgesN_in (F : Fence) (n : Nat) (h19 : F.fn 19) (h39 : F.fn 39) (h91 : F.fn 91) (hro : F.round = none) (hn : 3 ≤ n) (w : World) (L : List S53) (A : Option Addr) (c : Nat) (hr : Kd.C k53 w A L.length L) :
    CallsIn F n Try.prog 19 #[.agg #[.slice A L.length c]] w fun e w' => e = .returned (.int .i64 (wrap64 (allOf L).length)) ∧ Below w.heap.size w w' := by
  have h1 : 1 ≤ n := by omega
  have HR := Aside0.mk hr
  clear hr
  refine callsIn_of_wp_marks Try.func19 rfl h19 ?_ hro
  simp only [Try.ntmps19, List.size_toArray, List.length_cons, List.length_nil, Nat.reduceAdd, Nat.reduceSub, Array.replicate_succ, Array.replicate_zero, List.push_toArray, List.append_toArray, List.nil_append, List.cons_append]
  gi_wp2_with (gi_at_call 39; refine (all_in F (n - 1) h39 hro _ _ _ _).mono ?_; rintro e w' ⟨rfl, rfl⟩)
  have hb1 : Below w.heap.size w ((w.alloc (.cells #[.slice A L.length c] 24)).alloc (.cells #[.int .i64 0] 3)) := below_alloc (below_alloc (Below.refl _ _) _) _
  have hbs := blk_new ((w.alloc (.cells #[.slice A L.length c] 24)).alloc (.cells #[.int .i64 0] 3)) (.cells #[.slice A L.length c] 24)
  have hbn := blk_alloc (blk_new (w.alloc (.cells #[.slice A L.length c] 24)) (.cells #[.int .i64 0] 3)) (.cells #[.slice A L.length c] 24)
  rw [World.size_alloc, World.size_alloc] at hbs
  rw [World.size_alloc] at hbn
  refine wpIn_rangeFunc_ownF hro h1 (gf := 91) (lb := #[.pointer (some ⟨w.heap.size + 1 + 1, 0, none⟩)]) rfl h91 (enters_of Try.func91 (by kernel_rfl) rfl)
    (all_stops F (n - 1) h91 hro (by omega) (w.heap.size + 1 + 1) w _ L A c HR.out (hb1.alloc hb1.size _) ((blk_cell hbs 0).trans rfl)) kpT_t (kpT_b (by simp; omega)) (Below.refl _ _) (fun _ => rfl)
    (fun pre W => (W.heap[w.heap.size + 1]? = some (.cells #[.int .i64 (wrap64 pre.length)] 3 (0, 0))) ∧ Below w.heap.size w W)
    (fun _ _ _ => False)
    (OwnFrom.and ((blk_own _ _ _).from _) (ownFrom_below (Nat.le_refl _) (by simp; omega)))
    (fun _ _ _ _ _ hs _ _ => hs)
    ⟨by rw [show wrap64 ((List.length ([] : List (Int × S67)) : Nat) : Int) = 0 from by simp [wrap64]]; exact hbn, hb1.alloc hb1.size _⟩
    (fun x => { tmps := #[.agg #[.slice A L.length c], .pointer (some ⟨w.heap.size, 0, none⟩), .int .i64 0, .pointer (some ⟨w.heap.size + 1, 0, none⟩), .agg #[.slice A L.length c], .func (.func 91) #[] #[.pointer (some ⟨w.heap.size + 1 + 1, 0, none⟩)], .int .i64 x.1, .agg #[.int .i64 x.2.f0, .int .i64 x.2.f1], undef, undef, undef], defers := [] }) ?assign ?body ?done ?stop
  case assign =>
    intro l x W K hK
    gi_wp2
    simpa [encE] using hK
  case body =>
    rintro l pre x W ⟨hbk, hB⟩ _
    have HBK := Aside0.mk hbk
    have HB := Aside0.mk hB
    have hc := (blk_cell hbk 0).trans rfl
    have hf := blk_frozen hbk 0
    clear hbk hB
    gi_wp2
    refine ⟨KeepsOthers.setCell _ _ _, kpT_set (by omega) HBK.out (by decide) _ _, ?_, HB.out.setCell (p := ⟨w.heap.size + 1, 0, none⟩) (by simp) _⟩
    have h := blk_set HBK.out 0 (.int .i64 (wrap64 (wrap64 (pre.length : Int) + 1)))
    rw [List.length_append]
    have hw : wrap64 (wrap64 (pre.length : Int) + 1) = wrap64 ((pre.length + [x].length : Nat) : Int) := by
      simp only [List.length_cons, List.length_nil, wrap64]
      omega
    rw [← hw]
    exact h
  case done =>
    rintro D ys W hD rfl ⟨hbk, hB⟩ hK
    have HBK := Aside0.mk hbk
    have HB := Aside0.mk hB
    have hc := (blk_cell hbk 0).trans rfl
    clear hbk hB
    gi_wp2
    refine ⟨by simp, .inl ⟨_, _, rfl, run_takeDeferred hK, ?_⟩⟩
    exact ⟨_, results_tmp rfl _ _ _, rfl, HB.out.trans (belowK_b (w := w) (Nat.le_refl _) W D _ _ (by simp at hD; omega) hK rfl rfl)⟩
  case stop =>
    rintro D c pre W _ _ h _
    exact h.elim
end Go.Proofs.Ytbeefbhoccdicaa.AllG
