/- MoreChecks: the example of layer 8 in one text: stores, least, aggregates, colors, the awake (the texts LeastM, AggM, ColorM, Awake8 laid one behind the other, so that the claim has room). -/
import Derived.Test.YtbeefbhoccdicaaKernM
import Derived.Deep.MidRow
import Derived.Shelf.RegionOpen
import Derived.BigQuiet
import Derived.Laws.CopyOwn
import Derived.Test.YtbeefbhoccdicaaQMorex2
namespace Go.Proofs.Ytbeefbhoccdicaa.TellLaw
open Go.RowKit Go.Shelf Go.Proofs.YtbeefbhoccdicaaW.PrintWords Go.Proofs.YtbeefbhoccdicaaW.PrintLast Go.Proofs.YtbeefbhoccdicaaW.PrintMore Go.Proofs.Ytbeefbhoccdicaa.QGraphReads Go.Proofs.Ytbeefbhoccdicaa.KernM
set_option linter.unusedVariables false
set_option linter.unusedSimpArgs false

theorem range_of {w : World} {b t : Nat} {cs : List Value} (h : w.heap[b]? = some (.cells cs.toArray t (0, 0))) : w.rangeAt b 0 cs := by
  intro j v hj
  have := blk_cell h j
  rw [Nat.zero_add, this]
  simpa using hj

end Go.Proofs.Ytbeefbhoccdicaa.TellLaw
namespace Go.Proofs.Ytbeefbhoccdicaa.CutK
open Go.RowKit Go.Proofs.YtbeefbhoccdicaaW.PrintWords Go.Proofs.YtbeefbhoccdicaaW.PrintLast Go.Proofs.YtbeefbhoccdicaaW.PrintMore Go.Proofs.Ytbeefbhoccdicaa.QGraphReads Go.Proofs.Ytbeefbhoccdicaa.KernM
set_option linter.unusedVariables false
set_option linter.unusedSimpArgs false

theorem after_set {w w9 : World} {g j t : Nat} {cs : Array Value} {v : Value} (hw : w9 = w.setCell ⟨g, j, none⟩ v) (h : w.heap[g]? = some (.cells cs t (0, 0))) : w9.heap[g]? = some (.cells (cs.setIfInBounds j v) t (0, 0)) := by
  subst hw
  exact blk_put h j v rfl
theorem after_far {w w9 : World} {g j k t : Nat} {o : Array Value} {v : Value} (hw : w9 = w.setCell ⟨g, j, none⟩ v) (h : w.heap[k]? = some (.cells o t (0, 0))) (hne : k ≠ g) : w9.heap[k]? = some (.cells o t (0, 0)) := by
  subst hw
  exact blk_far (p := ⟨g, j, none⟩) h hne v
theorem after_below {w0 w w9 : World} {g j : Nat} {v : Value} (hw : w9 = w.setCell ⟨g, j, none⟩ v) (h : Below w0.heap.size w0 w) (hg : w0.heap.size ≤ g) : Below w0.heap.size w0 w9 := by
  subst hw
  exact below_set h hg
theorem one18 {c0 c1 c2 c3 c4 c5 c6 c7 c8 c9 c10 c11 c12 c13 c14 c15 c16 c17 : Value} (h0 : c0.oneCell' = true) (h1 : c1.oneCell' = true) (h2 : c2.oneCell' = true) (h3 : c3.oneCell' = true) (h4 : c4.oneCell' = true) (h5 : c5.oneCell' = true) (h6 : c6.oneCell' = true) (h7 : c7.oneCell' = true) (h8 : c8.oneCell' = true) (h9 : c9.oneCell' = true) (h10 : c10.oneCell' = true) (h11 : c11.oneCell' = true) (h12 : c12.oneCell' = true) (h13 : c13.oneCell' = true) (h14 : c14.oneCell' = true) (h15 : c15.oneCell' = true) (h16 : c16.oneCell' = true) (h17 : c17.oneCell' = true) : (#[c0, c1, c2, c3, c4, c5, c6, c7, c8, c9, c10, c11, c12, c13, c14, c15, c16, c17] : Array Value).all (·.oneCell') = true := by
  simp only [List.all_toArray, List.all_cons, List.all_nil, h0, h1, h2, h3, h4, h5, h6, h7, h8, h9, h10, h11, h12, h13, h14, h15, h16, h17, Bool.and_true]
theorem store_at {P : Program} {ops : Array Oper} {rest : List Oper} {o : Oper} {a : Act} {Q : Exit → Act → World → Prop} {W : World} {g j : Nat} {v : Value} (hgd : o.guard = none) (hN : o.dst = none)
    (hrun : (execOp a.eval o).run P W = .ok .skip (W.setCell ⟨g, j, none⟩ v)) (h : ∀ w', w' = W.setCell ⟨g, j, none⟩ v → wpList P ops Q rest a w') : wpList P ops Q (o :: rest) a W := by
  refine wpList_plain hgd fun K hK => ?_
  unfold Oper.wp
  rw [hrun]
  show K (a.put o.dst undef) _
  rw [hN]
  exact hK _ _ (h _ rfl)
end Go.Proofs.Ytbeefbhoccdicaa.CutK
namespace Go.Proofs.Ytbeefbhoccdicaa.LeastM
open Go.RowKit Go.Proofs.YtbeefbhoccdicaaW.PrintWords Go.Proofs.YtbeefbhoccdicaaW.PrintLast Go.Proofs.YtbeefbhoccdicaaW.PrintMore Go.Proofs.Ytbeefbhoccdicaa.QGraphReads Go.Proofs.Ytbeefbhoccdicaa.KernM
set_option linter.unusedVariables false
set_option linter.unusedSimpArgs false

theorem fn_calls (w : World) (f0 f1 f2 f3 n : Int) (b : Nat) (hb : w.cell? ⟨b, 0, none⟩ = some (.int .i64 n)) : Calls Try.prog 184 #[.agg #[.int .i64 f0, .int .i64 f1, .int .i64 f2, .int .i64 f3], .pointer (some ⟨b, 0, none⟩)] w fun e w' => e = .returned (.bool (f3 == n)) ∧ Below w.heap.size w w' := by
  have hl := World.block_lt_of_cell? _ _ hb
  have hl2 : b < w.heap.size := hl
  have hne : (b = w.heap.size) = False := eq_false (by omega)
  clear hl
  go_enter Try.func184, Try.ntmps184
  go_wp2_with fail
  go_ret
  exact ⟨rfl, below_alloc (Below.refl _ _) _⟩

set_option maxHeartbeats 4000000 in
set_option maxRecDepth 100000 in
theorem index_calls (w : World) (l : List S4) (A : Option Addr) (c : Nat) (n : Int) (b : Nat) (hr : Kd.C k4 w A l.length l) (hb : w.cell? ⟨b, 0, none⟩ = some (.int .i64 n)) :
    Calls Try.prog 183 #[.slice A l.length c, .func (.func 184) #[] #[.pointer (some ⟨b, 0, none⟩)]] w fun e w' => (∃ r : Int, e = .returned (.int .i64 r) ∧ decide (0 ≤ r) = l.any fun m => m.f3 == n) ∧ Below w.heap.size w w' := by
  have hmax : l.length ≤ 9223372036854775807 := hr.2.1
  have HR := Aside0.mk hr
  have HBB := Aside0.mk hb
  clear hr hb
  go_enter Try.func183, Try.ntmps183
  go_wp2_with fail
  go_loopw [8] (fun v8 wr => ∃ k : Nat, v8 = .int .i64 (k : Int) ∧ k ≤ l.length ∧ Aside0 (∀ m : Nat, m < k → ((l.getD m z4).f3 == n) = false) ∧ Aside0 (Below w.heap.size w wr)) (fun v8 _ => (l.length - (intOf v8)).toNat)
  case atStart => exact ⟨0, rfl, Nat.zero_le _, ⟨fun m hm => absurd hm (by omega)⟩, ⟨Below.refl _ _⟩⟩
  case round =>
    obtain ⟨k, rfl, hk, HM, HB⟩ := hrel
    rcases Nat.lt_or_ge k l.length with hlt | hge
    · have hlt1 : ((k : Int) < (l.length : Int)) = True := eq_true (by omega)
      obtain ⟨ad, hA, hx0, hx1, hx2, hx3⟩ := at4 HR.out (k : Int) (by omega) (by omega)
      subst hA
      have hgd : ∀ {a v}, w.cell? a = some v → wr.cell? a = some v := fun h => (HB.out.cell (World.block_lt_of_cell? _ _ h)).trans h
      replace hx0 := hgd hx0
      replace hx1 := hgd hx1
      replace hx2 := hgd hx2
      replace hx3 := hgd hx3
      have hbr := hgd HBB.out
      rw [Int.toNat_natCast] at hx0 hx1 hx2 hx3
      have hid : l.getD k z4 = rd4 l (k : Int) := rfl
      generalize rd4 l (k : Int) = m at hx0 hx1 hx2 hx3 hid
      have HID := Aside0.mk hid
      clear hgd hid
      go_wp2_with fail
      refine (fn_calls wr m.f0 m.f1 m.f2 m.f3 n b hbr).mono ?_
      rintro e w4 ⟨rfl, hb4⟩
      have HB4 := Aside0.mk (below_then HB.out HB.out.size hb4)
      clear hb4
      cases hq : m.f3 == n
      · go_wp2_with fail
        go_roundw
        case rel =>
          refine ⟨k + 1, by go_num, by omega, ⟨fun j hj => ?_⟩, HB4⟩
          rcases Nat.lt_or_ge j k with h | h
          · exact HM.out j h
          · have : j = k := by omega
            subst this
            rw [HID.out]
            exact hq
        case measure => simp [intOf]; omega
      · go_wp2_with fail
        go_ret
        refine ⟨⟨_, rfl, ?_⟩, HB4.out⟩
        rw [decide_eq_true (by omega)]
        refine (List.any_eq_true.2 ⟨l.getD k z4, ?_, ?_⟩).symm
        · rw [List.getD_eq_getElem?_getD, List.getElem?_eq_getElem hlt]
          exact List.getElem_mem hlt
        · rw [HID.out]
          exact hq
    · have hk1 : k = l.length := by omega
      subst hk1
      have hlt1 : ((l.length : Int) < (l.length : Int)) = False := eq_false (by omega)
      go_wp2_with fail
      go_ret
      refine ⟨⟨_, rfl, ?_⟩, HB.out⟩
      rw [show decide ((0 : Int) ≤ -1) = false from rfl]
      refine (List.any_eq_false.2 fun x hx => ?_).symm
      obtain ⟨j, hj, hjx⟩ := List.getElem_of_mem hx
      have := HM.out j hj
      rw [List.getD_eq_getElem?_getD, List.getElem?_eq_getElem hj] at this
      rw [← hjx]
      simpa using this

theorem contains_calls (w : World) (l : List S4) (A : Option Addr) (c : Nat) (n : Int) (b : Nat) (hr : Kd.C k4 w A l.length l) (hb : w.cell? ⟨b, 0, none⟩ = some (.int .i64 n)) :
    Calls Try.prog 160 #[.slice A l.length c, .func (.func 184) #[] #[.pointer (some ⟨b, 0, none⟩)]] w fun e w' => e = .returned (.bool (l.any fun m => m.f3 == n)) ∧ Below w.heap.size w w' := by
  go_enter Try.func160, Try.ntmps160
  go_wp2_with fail
  refine (index_calls w l A c n b hr hb).mono ?_
  rintro e w2 ⟨⟨r, rfl, hq⟩, hb2⟩
  have HQ := Aside0.mk hq
  clear hq
  go_wp2_with fail
  go_ret
  exact ⟨by rw [← HQ.out]; first | rfl | simp, hb2⟩

set_option maxHeartbeats 4000000 in
set_option maxRecDepth 100000 in
theorem least_calls (w : World) (l : List S4) (A : Option Addr) (c : Nat) (hr : Kd.C k4 w A l.length l) (h0 : (l.any fun m => m.f3 == 0) = true) (h1 : (l.any fun m => m.f3 == 1) = false) :
    Calls Try.prog 162 #[.slice A l.length c] w fun e w' => e = .returned (.int .i64 1) ∧ Below w.heap.size w w' := by
  have HR := Aside0.mk hr
  have H0 := Aside0.mk h0
  have H1 := Aside0.mk h1
  have HX := Aside0.mk (blk_new w (.cells #[.int .i64 0] 2))
  have HB := Aside0.mk (below_alloc (Below.refl w.heap.size w) (.cells #[.int .i64 0] 2))
  clear hr h0 h1
  go_enter Try.func162, Try.ntmps162
  go_wp2_with fail
  generalize w.alloc (.cells #[.int .i64 0] 2) = w1 at HX HB ⊢
  go_loopw [6] (fun v6 wr => ∃ n : Int, (n = 0 ∨ n = 1) ∧ Aside0 (wr.heap[w.heap.size]? = some (.cells #[.int .i64 n] 2 (0, 0))) ∧ Aside0 (Below w.heap.size w wr)) (fun _ wr => match wr.cell? ⟨w.heap.size, 0, none⟩ with | some (.int _ n) => (1 - n).toNat | _ => 0)
  case atStart => exact ⟨0, .inl rfl, HX, HB⟩
  case round =>
    obtain ⟨n, hn, HXr, HBr⟩ := hrel
    have hc : wr.cell? ⟨w.heap.size, 0, none⟩ = some (.int .i64 n) := (blk_cell HXr.out 0).trans rfl
    have HC := Aside0.mk hc
    go_wp2_with fail
    refine (contains_calls wr l A c n w.heap.size (Kd.C_below HR.out HBr.out) HC.out).mono ?_
    rintro e w3 ⟨rfl, hb3⟩
    have HX3 := Aside0.mk (blk_below HXr.out hb3)
    have HB3 := Aside0.mk (below_then HBr.out HBr.out.size hb3)
    have hc3 : w3.cell? ⟨w.heap.size, 0, none⟩ = some (.int .i64 n) := (blk_cell HX3.out 0).trans rfl
    have hf3 := blk_frozen HX3.out 0
    clear hb3
    rcases hn with rfl | rfl
    · rw [H0.out]
      go_wp2_with fail
      go_roundw
      case rel => exact ⟨1, .inr rfl, ⟨blk_put HX3.out 0 _ rfl⟩, ⟨below_set HB3.out (Nat.le_refl _)⟩⟩
      case measure =>
        rw [HC.out]
        have h5 : (w3.setCell ⟨w.heap.size, 0, none⟩ (.int .i64 1)).cell? ⟨w.heap.size, 0, none⟩ = some (.int .i64 1) := (blk_cell (blk_set HX3.out 0 (.int .i64 1)) 0).trans rfl
        first | (rw [h5]; decide) | (simp [h5])
    · rw [H1.out]
      go_wp2_with fail
      go_ret
      exact ⟨by first | rfl | simp, HB3.out⟩
end Go.Proofs.Ytbeefbhoccdicaa.LeastM

namespace Go.Proofs.Ytbeefbhoccdicaa.AggM
open Go.RowKit Go.Proofs.YtbeefbhoccdicaaW.PrintWords Go.Proofs.YtbeefbhoccdicaaW.PrintLast Go.Proofs.YtbeefbhoccdicaaW.PrintMore Go.Proofs.Ytbeefbhoccdicaa.QGraphReads Go.Proofs.Ytbeefbhoccdicaa.KernM
set_option linter.unusedVariables false
set_option linter.unusedSimpArgs false

set_option maxHeartbeats 4000000 in
set_option maxRecDepth 100000 in
theorem get_calls (w : World) : Calls Try.prog 163 #[.agg #[.bool false, .bool false, .bool false, .bool false, .bool false, .int .i64 0, .int .i64 0, .int .i64 0, .int .i64 0, .int .i64 0], .int .i64 4] w fun e w' => e = .returned (.tuple #[.int .i64 0, .bool false]) ∧ Below w.heap.size w w' := by
  go_enter Try.func163, Try.ntmps163
  go_wp2_with fail
  go_ret2
  exact ⟨by first | rfl | simp, below_alloc (Below.refl _ _) _⟩

theorem results_row_tmp {fn : Func} {q u : Tmp} (h : fn.results = #[.cell q 79, .tmp u]) (tmps : Array Value) (w : World) (g : Nat) (cs : Array Value)
    (hp : tmps.getD q undef = .pointer (some ⟨g, 0, none⟩)) (hg : w.heap[g]? = some (.cells cs 79 (0, 0))) (hs : cs.size = 10) (hu : tmps.getD u undef = .int .i64 0) :
    (results fn tmps).run Try.prog w = .ok (.tuple #[.agg cs, .int .i64 0]) w := by
  have hl := run_loadVar_row (P := Try.prog) w g 79 79 cs (0, 0) _ hg Try.underlying79 rfl (by rw [hs]; kernel_rfl)
  rw [results_cell_tmp h, hp, hu]
  simp [asAddr, hl]

set_option maxHeartbeats 4000000 in
set_option maxRecDepth 100000 in
theorem add_calls (w : World) : Calls Try.prog 120 #[.agg #[.bool false, .bool false, .bool false, .bool false, .bool false, .int .i64 0, .int .i64 0, .int .i64 0, .int .i64 0, .int .i64 0], .int .i64 4, .int .i64 1] w fun e w' => e = .returned (.tuple #[.agg #[.bool false, .bool false, .bool false, .bool false, .bool true, .int .i64 0, .int .i64 0, .int .i64 0, .int .i64 0, .int .i64 1], .int .i64 0]) ∧ Below w.heap.size w w' := by
  have HX := Aside0.mk (blk_alloc (blk_new w (.cells #[.bool false, .bool false, .bool false, .bool false, .bool true, .int .i64 0, .int .i64 0, .int .i64 0, .int .i64 0, .int .i64 1] 79)) (.cells #[.bool false, .bool false, .bool false, .bool false, .bool false, .int .i64 0, .int .i64 0, .int .i64 0, .int .i64 0, .int .i64 0] 79))
  have HY := Aside0.mk (blk_new (w.alloc (.cells #[.bool false, .bool false, .bool false, .bool false, .bool true, .int .i64 0, .int .i64 0, .int .i64 0, .int .i64 0, .int .i64 1] 79)) (.cells #[.bool false, .bool false, .bool false, .bool false, .bool false, .int .i64 0, .int .i64 0, .int .i64 0, .int .i64 0, .int .i64 0] 79))
  have HB := Aside0.mk (below_alloc (below_alloc (Below.refl w.heap.size w) (.cells #[.bool false, .bool false, .bool false, .bool false, .bool true, .int .i64 0, .int .i64 0, .int .i64 0, .int .i64 0, .int .i64 1] 79)) (.cells #[.bool false, .bool false, .bool false, .bool false, .bool false, .int .i64 0, .int .i64 0, .int .i64 0, .int .i64 0, .int .i64 0] 79))
  rw [World.size_alloc] at HY
  generalize hw2 : ((w.alloc (.cells #[.bool false, .bool false, .bool false, .bool false, .bool true, .int .i64 0, .int .i64 0, .int .i64 0, .int .i64 0, .int .i64 1] 79)).alloc (.cells #[.bool false, .bool false, .bool false, .bool false, .bool false, .int .i64 0, .int .i64 0, .int .i64 0, .int .i64 0, .int .i64 0] 79)) = w2 at HX HY HB
  go_enter Try.func120, Try.ntmps120
  go_wp2_with (first | ((with_reducible refine gate_dst (N := 43) rfl ?_); refine wpList_load_row rfl 79 (.tmp 3) rfl w.heap.size rfl 79 _ (0, 0) _ HX.out Try.underlying79 rfl (by kernel_rfl) ?_) | ((with_reducible refine gate_store (t := 79) (p := 6) rfl ?_); refine wpList_store_row rfl 79 (.tmp 6) (.tmp 43) rfl (w.heap.size + 1) _ rfl rfl 79 _ HY.out (by kernel_rfl) rfl (by simp [Value.oneCell']) ?_))
  refine bodyPost_ret (results_row_tmp rfl _ _ (w.heap.size + 1) _ rfl (setRow_heap _ _ _ _ _ _ HY.out) rfl rfl) rfl ?_
  exact ⟨rfl, below_setRow HB.out (Nat.le_succ _) _⟩

theorem index0_calls (w : World) (A : Option Addr) (c : Nat) (f : Value) : Calls Try.prog 185 #[.slice A 0 c, f] w fun e w' => e = .returned (.int .i64 (-1)) ∧ Below w.heap.size w w' := by
  go_enter Try.func185, Try.ntmps185
  go_wp2_with fail
  go_loopw [8] (fun v8 wr => v8 = .int .i64 0 ∧ wr = w) (fun _ _ => 0)
  case atStart => exact ⟨rfl, rfl⟩
  case round =>
    obtain ⟨rfl, rfl⟩ := hrel
    go_wp2_with fail
    go_ret
    exact ⟨rfl, Below.refl _ _⟩
theorem delete0_calls (w : World) (A : Option Addr) (c : Nat) (f : Value) : Calls Try.prog 164 #[.slice A 0 c, f] w fun e w' => e = .returned (.slice A 0 c) ∧ Below w.heap.size w w' := by
  go_enter Try.func164, Try.ntmps164
  go_wp2_with fail
  refine (index0_calls w A c f).mono ?_
  rintro e w2 ⟨rfl, hb2⟩
  go_wp2_with fail
  go_ret
  exact ⟨rfl, hb2⟩
set_option maxHeartbeats 4000000 in
set_option maxRecDepth 100000 in
theorem tell0_calls (w : World) (cs : Array Value) (A : Option Addr) (c : Nat) (v : Int) : Calls Try.prog 159 #[.agg cs, .slice A 0 c, .int .i64 v] w fun e w' => e = .returned (.slice none 0 0) ∧ Below w.heap.size w w' := by
  go_enter Try.func159, Try.ntmps159
  go_wp2_with fail
  generalize hw1 : w.alloc (.cells cs 81) = w1
  have HB : Aside0 (Below w.heap.size w w1) := ⟨by rw [← hw1]; exact below_alloc (Below.refl _ _) _⟩
  go_loopw [7, 12] (fun v7 v12 wr => v7 = .slice none 0 0 ∧ v12 = .int .i64 0 ∧ wr = w1) (fun _ _ _ => 0)
  case atStart => exact ⟨rfl, rfl, rfl⟩
  case round =>
    obtain ⟨rfl, rfl, rfl⟩ := hrel
    go_wp2_with fail
    go_ret
    exact ⟨rfl, HB.out⟩
end Go.Proofs.Ytbeefbhoccdicaa.AggM

namespace Go.Proofs.Ytbeefbhoccdicaa.ColorM
open Go.RowKit Go.Proofs.YtbeefbhoccdicaaW.PrintWords Go.Proofs.YtbeefbhoccdicaaW.PrintLast Go.Proofs.YtbeefbhoccdicaaW.PrintMore Go.Proofs.Ytbeefbhoccdicaa.QGraphReads Go.Proofs.Ytbeefbhoccdicaa.KernM Go.Proofs.Ytbeefbhoccdicaa.AggM Go.Proofs.Ytbeefbhoccdicaa.TellLaw
set_option linter.unusedVariables false
set_option linter.unusedSimpArgs false

def in8 (A : Option Addr) (c : Nat) : Array Value := #[.int .i64 1, .int .i64 1, .int .i64 0, .slice none 0 0, .bool false, .slice A 2 c, .bool false, .bool false, .bool false, .bool false, .bool false, .int .i64 0, .int .i64 0, .int .i64 0, .int .i64 0, .int .i64 0, .int .i64 0, .slice none 0 0]
def out8 : Array Value := #[.int .i64 1, .bool false, .slice none 0 0, .slice none 0 0, .bool false, .bool false, .bool false, .bool false, .bool true, .int .i64 0, .int .i64 0, .int .i64 0, .int .i64 0, .int .i64 1, .int .i64 0]
theorem range_mid {w : World} {b t : Nat} {ps cs ds : List Value} (h : w.heap[b]? = some (.cells (ps ++ (cs ++ ds)).toArray t (0, 0))) : w.rangeAt b ps.length cs := by
  intro j v hj
  have hl := (List.getElem?_eq_some_iff.1 hj).1
  have h2 := range_of h (ps.length + j) v (by rw [List.getElem?_append_right (by omega), show ps.length + j - ps.length = j by omega, List.getElem?_append_left hl]; exact hj)
  rw [Nat.zero_add] at h2
  exact h2
theorem below_cells {w0 : World} {g : Nat} (hg : w0.heap.size ≤ g) : ∀ (vs : List Value) (o : Nat) (W : World), Below w0.heap.size w0 W → Below w0.heap.size w0 (W.setCells g o vs)
  | [], _, _, h => h
  | v :: r, o, W, h => below_cells hg r (o + 1) (W.setCell ⟨g, o, none⟩ v) (below_set h hg)
theorem there_row {w : World} {b t : Nat} {cs : Array Value} (h : w.heap[b]? = some (.cells cs t (0, 0))) {o n : Nat} (hn : o + n ≤ cs.size) : w.there b o n := by
  intro j hj
  refine ⟨?_, blk_frozen h (o + j)⟩
  rw [blk_cell h (o + j), Array.getElem?_eq_getElem (by omega)]
  rfl

set_option maxHeartbeats 8000000 in
set_option maxRecDepth 100000 in
theorem colors_calls (w : World) (l : List S4) (A : Option Addr) (c : Nat) (hl : l.length = 2) (hr : Kd.C k4 w A l.length l) (h0 : (l.any fun m => m.f3 == 0) = true) (h1 : (l.any fun m => m.f3 == 1) = false) :
    Calls Try.prog 126 #[.agg #[.int .i64 1, .int .i64 1, .int .i64 0, .slice none 0 0, .bool false, .slice A 2 c, .bool false, .bool false, .bool false, .bool false, .bool false, .int .i64 0, .int .i64 0, .int .i64 0, .int .i64 0, .int .i64 0, .int .i64 0, .slice none 0 0]] w fun e w' => e = .returned (.agg #[.int .i64 1, .bool false, .slice none 0 0, .slice none 0 0, .bool false, .bool false, .bool false, .bool false, .bool true, .int .i64 0, .int .i64 0, .int .i64 0, .int .i64 0, .int .i64 1, .int .i64 0]) ∧ Below w.heap.size w w' := by
  have HX := Aside0.mk (blk_alloc (blk_new w (.cells #[.int .i64 1, .int .i64 1, .int .i64 0, .slice none 0 0, .bool false, .slice A 2 c, .bool false, .bool false, .bool false, .bool false, .bool false, .int .i64 0, .int .i64 0, .int .i64 0, .int .i64 0, .int .i64 0, .int .i64 0, .slice none 0 0] 81)) (.cells #[.int .i64 0, .bool false, .slice none 0 0, .slice none 0 0, .bool false, .bool false, .bool false, .bool false, .bool false, .int .i64 0, .int .i64 0, .int .i64 0, .int .i64 0, .int .i64 0, .int .i64 0] 93))
  have HY := Aside0.mk (blk_new (w.alloc (.cells #[.int .i64 1, .int .i64 1, .int .i64 0, .slice none 0 0, .bool false, .slice A 2 c, .bool false, .bool false, .bool false, .bool false, .bool false, .int .i64 0, .int .i64 0, .int .i64 0, .int .i64 0, .int .i64 0, .int .i64 0, .slice none 0 0] 81)) (.cells #[.int .i64 0, .bool false, .slice none 0 0, .slice none 0 0, .bool false, .bool false, .bool false, .bool false, .bool false, .int .i64 0, .int .i64 0, .int .i64 0, .int .i64 0, .int .i64 0, .int .i64 0] 93))
  have HB := Aside0.mk (below_alloc (below_alloc (Below.refl w.heap.size w) (.cells #[.int .i64 1, .int .i64 1, .int .i64 0, .slice none 0 0, .bool false, .slice A 2 c, .bool false, .bool false, .bool false, .bool false, .bool false, .int .i64 0, .int .i64 0, .int .i64 0, .int .i64 0, .int .i64 0, .int .i64 0, .slice none 0 0] 81)) (.cells #[.int .i64 0, .bool false, .slice none 0 0, .slice none 0 0, .bool false, .bool false, .bool false, .bool false, .bool false, .int .i64 0, .int .i64 0, .int .i64 0, .int .i64 0, .int .i64 0, .int .i64 0] 93))
  rw [World.size_alloc] at HY
  generalize hw2 : ((w.alloc (.cells #[.int .i64 1, .int .i64 1, .int .i64 0, .slice none 0 0, .bool false, .slice A 2 c, .bool false, .bool false, .bool false, .bool false, .bool false, .int .i64 0, .int .i64 0, .int .i64 0, .int .i64 0, .int .i64 0, .int .i64 0, .slice none 0 0] 81)).alloc (.cells #[.int .i64 0, .bool false, .slice none 0 0, .slice none 0 0, .bool false, .bool false, .bool false, .bool false, .bool false, .int .i64 0, .int .i64 0, .int .i64 0, .int .i64 0, .int .i64 0, .int .i64 0] 93)) = w2 at HX HY HB
  have HR := Aside0.mk (Kd.C_below hr HB.out)
  have H0 := Aside0.mk h0
  have H1 := Aside0.mk h1
  have HL := Aside0.mk hl
  have hc0 : w2.cell? ⟨w.heap.size, 0, none⟩ = some (.int .i64 1) := (blk_cell HX.out 0).trans rfl
  have hc5 : w2.cell? ⟨w.heap.size, 5, none⟩ = some (.slice A 2 c) := (blk_cell HX.out 5).trans rfl
  clear hr h0 h1 hl
  go_enter Try.func126, Try.ntmps126
  go_wp2_with fail
  rw [← HL.out]
  refine (LeastM.least_calls w2 l A c HR.out H0.out H1.out).mono ?_
  rintro e w3 ⟨rfl, hb3⟩
  have HX3 := Aside0.mk (blk_alloc (blk_below HX.out hb3) (.cells #[.int .i64 0, .bool false, .slice none 0 0, .slice none 0 0, .bool false, .bool false, .bool false, .bool false, .bool false, .int .i64 0, .int .i64 0, .int .i64 0, .int .i64 0, .int .i64 0, .int .i64 0] 93))
  have HY3 := Aside0.mk (blk_alloc (blk_below HY.out hb3) (.cells #[.int .i64 0, .bool false, .slice none 0 0, .slice none 0 0, .bool false, .bool false, .bool false, .bool false, .bool false, .int .i64 0, .int .i64 0, .int .i64 0, .int .i64 0, .int .i64 0, .int .i64 0] 93))
  have HZ3 := Aside0.mk (blk_new w3 (.cells #[.int .i64 0, .bool false, .slice none 0 0, .slice none 0 0, .bool false, .bool false, .bool false, .bool false, .bool false, .int .i64 0, .int .i64 0, .int .i64 0, .int .i64 0, .int .i64 0, .int .i64 0] 93))
  have HB3 := Aside0.mk (below_alloc (below_then HB.out HB.out.size hb3) (.cells #[.int .i64 0, .bool false, .slice none 0 0, .slice none 0 0, .bool false, .bool false, .bool false, .bool false, .bool false, .int .i64 0, .int .i64 0, .int .i64 0, .int .i64 0, .int .i64 0, .int .i64 0] 93))
  have hlw : w.heap.size + 1 < w3.heap.size := Nat.lt_of_lt_of_le (blk_lt HY.out) hb3.size
  generalize hw4 : w3.alloc (.cells #[.int .i64 0, .bool false, .slice none 0 0, .slice none 0 0, .bool false, .bool false, .bool false, .bool false, .bool false, .int .i64 0, .int .i64 0, .int .i64 0, .int .i64 0, .int .i64 0, .int .i64 0] 93) = w4 at HX3 HY3 HZ3 HB3
  have HX4 := Aside0.mk ((setRow_other w4 w3.heap.size w.heap.size #[.int .i64 1, .bool false, .slice none 0 0, .slice none 0 0, .bool false, .bool false, .bool false, .bool false, .bool false, .int .i64 0, .int .i64 0, .int .i64 0, .int .i64 0, .int .i64 0, .int .i64 0] (by omega)).trans HX3.out)
  have HY4 := Aside0.mk ((setRow_other w4 w3.heap.size (w.heap.size + 1) #[.int .i64 1, .bool false, .slice none 0 0, .slice none 0 0, .bool false, .bool false, .bool false, .bool false, .bool false, .int .i64 0, .int .i64 0, .int .i64 0, .int .i64 0, .int .i64 0, .int .i64 0] (by omega)).trans HY3.out)
  have HZ4 := Aside0.mk (setRow_heap w4 w3.heap.size _ #[.int .i64 1, .bool false, .slice none 0 0, .slice none 0 0, .bool false, .bool false, .bool false, .bool false, .bool false, .int .i64 0, .int .i64 0, .int .i64 0, .int .i64 0, .int .i64 0, .int .i64 0] 93 (0, 0) HZ3.out)
  have HB4 := Aside0.mk (below_setRow HB3.out (by omega) #[.int .i64 1, .bool false, .slice none 0 0, .slice none 0 0, .bool false, .bool false, .bool false, .bool false, .bool false, .int .i64 0, .int .i64 0, .int .i64 0, .int .i64 0, .int .i64 0, .int .i64 0] (g := w3.heap.size))
  generalize hw5 : w4.setRow w3.heap.size #[.int .i64 1, .bool false, .slice none 0 0, .slice none 0 0, .bool false, .bool false, .bool false, .bool false, .bool false, .int .i64 0, .int .i64 0, .int .i64 0, .int .i64 0, .int .i64 0, .int .i64 0] = w5 at HX4 HY4 HZ4 HB4
  have hd0 : w5.cell? ⟨w.heap.size, 0, none⟩ = some (.int .i64 1) := (blk_cell HX4.out 0).trans rfl
  clear hb3 HX HY HB HR HX3 HY3 HB3 hc0 hc5 hw2
  go_wp2_with (first | ((with_reducible refine gate_store (t := 93) (p := 3) rfl ?_); refine wpList_store_row rfl 93 (.tmp 3) (.tmp 17) rfl w3.heap.size _ rfl rfl 93 _ HZ3.out (by kernel_rfl) rfl (by simp [Value.oneCell']) ?_) | ((with_reducible refine gate_dst (N := 31) rfl ?_); refine wpList_load_mid rfl 79 (.tmp 30) rfl w.heap.size 6 rfl [.bool false, .bool false, .bool false, .bool false, .bool false, .int .i64 0, .int .i64 0, .int .i64 0, .int .i64 0, .int .i64 0] _ (range_mid (ps := [.int .i64 1, .int .i64 1, .int .i64 0, .slice none 0 0, .bool false, .slice A 2 c]) (cs := [.bool false, .bool false, .bool false, .bool false, .bool false, .int .i64 0, .int .i64 0, .int .i64 0, .int .i64 0, .int .i64 0]) (ds := [.int .i64 0, .slice none 0 0]) HX4.out) Try.underlying79 rfl (by kernel_rfl) ?_))
  refine (get_calls w5).mono ?_
  rintro e w6 ⟨rfl, hb6⟩
  have HX6 := Aside0.mk (blk_below HX4.out hb6)
  have HY6 := Aside0.mk (blk_below HY4.out hb6)
  have HZ6 := Aside0.mk (blk_below HZ4.out hb6)
  have HB6 := Aside0.mk (below_then HB4.out HB4.out.size hb6)
  have hd6 : w6.cell? ⟨w.heap.size, 0, none⟩ = some (.int .i64 1) := (blk_cell HX6.out 0).trans rfl
  clear hb6 HX4 HY4 HZ4 HB4 hd0 hw5 hw4 HZ3
  go_wp2_with fail
  refine (add_calls w6).mono ?_
  rintro e w7 ⟨rfl, hb7⟩
  have HX7 := Aside0.mk (blk_below HX6.out hb7)
  have HY7 := Aside0.mk (blk_below HY6.out hb7)
  have HZ4 := Aside0.mk (blk_below HZ6.out hb7)
  have HB7 := Aside0.mk (below_then HB6.out HB6.out.size hb7)
  have HZ8 : Aside0 ((w7.setCells w3.heap.size 4 [.bool false, .bool false, .bool false, .bool false, .bool true, .int .i64 0, .int .i64 0, .int .i64 0, .int .i64 0, .int .i64 1]).heap[w3.heap.size]? = some (.cells #[.int .i64 1, .bool false, .slice none 0 0, .slice none 0 0, .bool false, .bool false, .bool false, .bool false, .bool true, .int .i64 0, .int .i64 0, .int .i64 0, .int .i64 0, .int .i64 1, .int .i64 0] 93 (0, 0))) := ⟨(blk_put (blk_put (blk_put (blk_put (blk_put (blk_put (blk_put (blk_put (blk_put (blk_put HZ4.out 4 (.bool false) rfl) 5 (.bool false) rfl) 6 (.bool false) rfl) 7 (.bool false) rfl) 8 (.bool true) rfl) 9 (.int .i64 0) rfl) 10 (.int .i64 0) rfl) 11 (.int .i64 0) rfl) 12 (.int .i64 0) rfl) 13 (.int .i64 1) rfl)⟩
  have HX8 := Aside0.mk ((setCells_far (g := w3.heap.size) [.bool false, .bool false, .bool false, .bool false, .bool true, .int .i64 0, .int .i64 0, .int .i64 0, .int .i64 0, .int .i64 1] 4 (w := w7) w.heap.size (by omega)).trans HX7.out)
  have HY8 := Aside0.mk ((setCells_far (g := w3.heap.size) [.bool false, .bool false, .bool false, .bool false, .bool true, .int .i64 0, .int .i64 0, .int .i64 0, .int .i64 0, .int .i64 1] 4 (w := w7) (w.heap.size + 1) (by omega)).trans HY7.out)
  have HB8 := Aside0.mk (below_cells (w0 := w) (g := w3.heap.size) (by omega) [.bool false, .bool false, .bool false, .bool false, .bool true, .int .i64 0, .int .i64 0, .int .i64 0, .int .i64 0, .int .i64 1] 4 w7 HB7.out)
  have HT := Aside0.mk (there_row HZ4.out (o := 4) (n := 10) (by decide))
  generalize hw8 : w7.setCells w3.heap.size 4 [.bool false, .bool false, .bool false, .bool false, .bool true, .int .i64 0, .int .i64 0, .int .i64 0, .int .i64 0, .int .i64 1] = w8 at HZ8 HX8 HY8 HB8
  have e1 : w8.cell? ⟨w.heap.size, 1, none⟩ = some (.int .i64 1) := (blk_cell HX8.out 1).trans rfl
  have e2 : w8.cell? ⟨w.heap.size, 2, none⟩ = some (.int .i64 0) := (blk_cell HX8.out 2).trans rfl
  have e3 : w8.cell? ⟨w.heap.size, 3, none⟩ = some (.slice none 0 0) := (blk_cell HX8.out 3).trans rfl
  clear hb7 HX6 HY6 HZ6 HB6 hd6
  go_wp2_with ((with_reducible refine gate_store (t := 79) (p := 53) rfl ?_); refine wpList_store_mid rfl 79 (.tmp 53) (.tmp 51) rfl w3.heap.size 4 _ rfl rfl HT.out (by kernel_rfl) (by simp [Value.oneCell']) ?_)
  refine (more_others.calls 2 1 0 none 0 [] [] w8 (Kd.C_nil _ _) (Nat.le_refl _) rfl).mono ?_
  rintro e w9 ⟨v56, rfl, hv, hb9⟩
  obtain ⟨A56, c56, hA56⟩ := Kd.R_slice hv
  have hA57 : v56 = .slice A56 0 c56 := hA56
  subst hA57
  have HX9 := Aside0.mk (blk_below HX8.out hb9)
  have HY9 := Aside0.mk (blk_below HY8.out hb9)
  have HZ9 := Aside0.mk (blk_below HZ8.out hb9)
  have HB9 := Aside0.mk (below_then HB8.out HB8.out.size hb9)
  clear hv hb9 hA56 HX8 HY8 HZ8 HB8 e1 e2 e3 hw8 HX7 HY7 HZ4 HB7 HT
  go_wp2_with fail
  refine (delete0_calls w9 A56 c56 _).mono ?_
  rintro e w10 ⟨rfl, hb10⟩
  have HX10 := Aside0.mk (blk_below HX9.out hb10)
  have HY10 := Aside0.mk (blk_below HY9.out hb10)
  have HZ10 := Aside0.mk (blk_below HZ9.out hb10)
  have HB10 := Aside0.mk (below_then HB9.out HB9.out.size hb10)
  have e0 : w10.cell? ⟨w3.heap.size, 0, none⟩ = some (.int .i64 1) := (blk_cell HZ10.out 0).trans rfl
  clear hb10 HX9 HY9 HZ9 HB9
  go_wp2_with ((with_reducible refine gate_dst (N := 59) rfl ?_); refine wpList_load_row rfl 81 (.tmp 1) rfl w.heap.size rfl 81 _ (0, 0) _ HX10.out Try.underlying81 rfl (by kernel_rfl) ?_)
  refine (tell0_calls w10 _ A56 c56 1).mono ?_
  rintro e w11 ⟨rfl, hb11⟩
  have HY11 := Aside0.mk (blk_below HY10.out hb11)
  have HZ11 := Aside0.mk (blk_below HZ10.out hb11)
  have HB11 := Aside0.mk (below_then HB10.out HB10.out.size hb11)
  have e2 : w11.cell? ⟨w3.heap.size, 2, none⟩ = some (.slice none 0 0) := (blk_cell HZ11.out 2).trans rfl
  have f2 := blk_frozen HZ11.out 2
  have hne3 : w.heap.size + 1 ≠ w3.heap.size := by omega
  clear hb11 HX10 HY10 HZ10 HB10 e0
  go_wp2_with (first | ((with_reducible refine gate_store (t := 75) (p := 64) rfl ?_); refine CutK.store_at rfl rfl (g := w3.heap.size) (j := 2) (v := .slice none 0 0) (by first | (go_simp; done) | (go_simp; rfl)) ?_; intro w12 hw; have n0 := CutK.after_set hw HZ11.out; simp only [List.setIfInBounds_toArray, List.set_cons_zero, List.set_cons_succ] at n0; have HZ12 := Aside0.mk n0; have HY12 := Aside0.mk (CutK.after_far hw HY11.out hne3); have HB12 := Aside0.mk (CutK.after_below hw HB11.out (by omega)); clear hw) | ((with_reducible refine gate_dst (N := 65) rfl ?_); refine wpList_load_row rfl 93 (.tmp 3) rfl w3.heap.size rfl 93 _ (0, 0) _ HZ12.out Try.underlying93 rfl (by kernel_rfl) ?_) | ((with_reducible refine gate_store (t := 93) (p := 2) rfl ?_); refine wpList_store_row rfl 93 (.tmp 2) (.tmp 65) rfl (w.heap.size + 1) _ rfl rfl 93 _ HY12.out (by kernel_rfl) rfl (by simp [Value.oneCell']) ?_))
  refine bodyPost_ret (results_cell_row rfl _ _ (w.heap.size + 1) 93 _ (0, 0) _ rfl (setRow_heap _ _ _ _ _ _ HY12.out) Try.underlying93 rfl (by kernel_rfl)) rfl ?_
  exact ⟨rfl, below_setRow HB12.out (Nat.le_succ _) _⟩
end Go.Proofs.Ytbeefbhoccdicaa.ColorM

namespace Go.Proofs.Ytbeefbhoccdicaa.Awake8
open Go.RowKit Go.Proofs.YtbeefbhoccdicaaW.PrintWords Go.Proofs.YtbeefbhoccdicaaW.PrintLast Go.Proofs.YtbeefbhoccdicaaW.PrintMore Go.Proofs.Ytbeefbhoccdicaa.QGraphReads Go.Proofs.Ytbeefbhoccdicaa.KernM Go.Proofs.Ytbeefbhoccdicaa.ColorM
set_option linter.unusedVariables false
set_option linter.unusedSimpArgs false

set_option maxHeartbeats 4000000 in
set_option maxRecDepth 100000 in
theorem step_calls (w : World) (l : List S4) (A : Option Addr) (c : Nat) (hl : l.length = 2) (hr : Kd.C k4 w A l.length l) (h0 : (l.any fun m => m.f3 == 0) = true) (h1 : (l.any fun m => m.f3 == 1) = false) :
    Calls Try.prog 99 #[.string ⟨#[99, 111, 108, 111, 114, 115]⟩, .agg #[.int .i64 1, .int .i64 1, .int .i64 0, .slice none 0 0, .bool false, .slice A 2 c, .bool false, .bool false, .bool false, .bool false, .bool false, .int .i64 0, .int .i64 0, .int .i64 0, .int .i64 0, .int .i64 0, .int .i64 0, .slice none 0 0]] w fun e w' => e = .returned (.agg #[.int .i64 1, .bool false, .slice none 0 0, .slice none 0 0, .bool false, .bool false, .bool false, .bool false, .bool true, .int .i64 0, .int .i64 0, .int .i64 0, .int .i64 0, .int .i64 1, .int .i64 0]) ∧ Below w.heap.size w w' := by
  have HX := Aside0.mk (blk_alloc (blk_new w (.cells #[.int .i64 1, .int .i64 1, .int .i64 0, .slice none 0 0, .bool false, .slice A 2 c, .bool false, .bool false, .bool false, .bool false, .bool false, .int .i64 0, .int .i64 0, .int .i64 0, .int .i64 0, .int .i64 0, .int .i64 0, .slice none 0 0] 81)) (.cells #[.int .i64 0, .bool false, .slice none 0 0, .slice none 0 0, .bool false, .bool false, .bool false, .bool false, .bool false, .int .i64 0, .int .i64 0, .int .i64 0, .int .i64 0, .int .i64 0, .int .i64 0] 93))
  have HY := Aside0.mk (blk_new (w.alloc (.cells #[.int .i64 1, .int .i64 1, .int .i64 0, .slice none 0 0, .bool false, .slice A 2 c, .bool false, .bool false, .bool false, .bool false, .bool false, .int .i64 0, .int .i64 0, .int .i64 0, .int .i64 0, .int .i64 0, .int .i64 0, .slice none 0 0] 81)) (.cells #[.int .i64 0, .bool false, .slice none 0 0, .slice none 0 0, .bool false, .bool false, .bool false, .bool false, .bool false, .int .i64 0, .int .i64 0, .int .i64 0, .int .i64 0, .int .i64 0, .int .i64 0] 93))
  have HB := Aside0.mk (below_alloc (below_alloc (Below.refl w.heap.size w) (.cells #[.int .i64 1, .int .i64 1, .int .i64 0, .slice none 0 0, .bool false, .slice A 2 c, .bool false, .bool false, .bool false, .bool false, .bool false, .int .i64 0, .int .i64 0, .int .i64 0, .int .i64 0, .int .i64 0, .int .i64 0, .slice none 0 0] 81)) (.cells #[.int .i64 0, .bool false, .slice none 0 0, .slice none 0 0, .bool false, .bool false, .bool false, .bool false, .bool false, .int .i64 0, .int .i64 0, .int .i64 0, .int .i64 0, .int .i64 0, .int .i64 0] 93))
  rw [World.size_alloc] at HY
  generalize hw2 : ((w.alloc (.cells #[.int .i64 1, .int .i64 1, .int .i64 0, .slice none 0 0, .bool false, .slice A 2 c, .bool false, .bool false, .bool false, .bool false, .bool false, .int .i64 0, .int .i64 0, .int .i64 0, .int .i64 0, .int .i64 0, .int .i64 0, .slice none 0 0] 81)).alloc (.cells #[.int .i64 0, .bool false, .slice none 0 0, .slice none 0 0, .bool false, .bool false, .bool false, .bool false, .bool false, .int .i64 0, .int .i64 0, .int .i64 0, .int .i64 0, .int .i64 0, .int .i64 0] 93)) = w2 at HX HY HB
  have HR := Aside0.mk (Kd.C_below hr HB.out)
  have HL := Aside0.mk hl
  have H0 := Aside0.mk h0
  have H1 := Aside0.mk h1
  clear hr hl h0 h1
  go_enter Try.func99, Try.ntmps99
  go_wp2_with ((with_reducible refine gate_dst (N := 24) rfl ?_); refine wpList_load_row rfl 81 (.tmp 3) rfl w.heap.size rfl 81 _ (0, 0) _ HX.out Try.underlying81 rfl (by kernel_rfl) ?_)
  refine (colors_calls w2 l A c HL.out HR.out H0.out H1.out).mono ?_
  rintro e w3 ⟨rfl, hb3⟩
  have HY3 := Aside0.mk (blk_below HY.out hb3)
  have HB3 := Aside0.mk (below_then HB.out HB.out.size hb3)
  clear hb3 hw2
  go_wp2_with ((with_reducible refine gate_store (t := 93) (p := 4) rfl ?_); refine wpList_store_row rfl 93 (.tmp 4) (.tmp 25) rfl (w.heap.size + 1) _ rfl rfl 93 _ HY3.out (by kernel_rfl) rfl (by simp [Value.oneCell']) ?_)
  refine bodyPost_ret (results_cell_row rfl _ _ (w.heap.size + 1) 93 _ (0, 0) _ rfl (setRow_heap _ _ _ _ _ _ HY3.out) Try.underlying93 rfl (by kernel_rfl)) rfl ?_
  exact ⟨rfl, below_setRow HB3.out (Nat.le_succ _) _⟩

theorem c4_two (w : World) (b : Nat) (h : w.heap[b]? = some (.cells #[.int .i64 0, .int .i64 0, .int .i64 0, .int .i64 0, .int .i64 0, .int .i64 0, .int .i64 0, .int .i64 2] 86 (0, 0))) : Kd.C k4 w (some ⟨b, 0, none⟩) 2 [⟨0, 0, 0, 0⟩, ⟨0, 0, 0, 2⟩] := by
  refine ⟨rfl, by decide, fun _ => ⟨_, rfl, ?_⟩⟩
  intro j q hj
  have hj0 : j = 0 ∨ j = 1 := by
    have h5 := (List.getElem?_eq_some_iff.1 hj).1
    simp at h5
    omega
  have mkK : ∀ x : S4, k4.K w x [.int .i64 x.f0, .int .i64 x.f1, .int .i64 x.f2, .int .i64 x.f3] := fun x => ⟨[.int .i64 x.f0], [.int .i64 x.f1, .int .i64 x.f2, .int .i64 x.f3], rfl, rfl, ⟨[.int .i64 x.f1], [.int .i64 x.f2, .int .i64 x.f3], rfl, rfl, ⟨[.int .i64 x.f2], [.int .i64 x.f3], rfl, rfl, rfl⟩⟩⟩
  rcases hj0 with rfl | rfl
  · have hp : (⟨0, 0, 0, 0⟩ : S4) = q := by simpa using hj
    subst hp
    refine ⟨_, rfl, mkK _, ?_⟩
    intro i u hi
    have hlt := (List.getElem?_eq_some_iff.1 hi).1
    have h2 : i = 0 ∨ i = 1 ∨ i = 2 ∨ i = 3 := by simp at hlt; omega
    rcases h2 with rfl | rfl | rfl | rfl
    · exact (blk_cell h 0).trans (by simpa using hi)
    · exact (blk_cell h 1).trans (by simpa using hi)
    · exact (blk_cell h 2).trans (by simpa using hi)
    · exact (blk_cell h 3).trans (by simpa using hi)
  · have hp : (⟨0, 0, 0, 2⟩ : S4) = q := by simpa using hj
    subst hp
    refine ⟨_, rfl, mkK _, ?_⟩
    intro i u hi
    have hlt := (List.getElem?_eq_some_iff.1 hi).1
    have h2 : i = 0 ∨ i = 1 ∨ i = 2 ∨ i = 3 := by simp at hlt; omega
    rcases h2 with rfl | rfl | rfl | rfl
    · exact (blk_cell h 4).trans (by simpa using hi)
    · exact (blk_cell h 5).trans (by simpa using hi)
    · exact (blk_cell h 6).trans (by simpa using hi)
    · exact (blk_cell h 7).trans (by simpa using hi)

set_option maxHeartbeats 4000000 in
set_option maxRecDepth 100000 in
theorem awake_calls (w : World) : Calls Try.prog 59 #[] w fun e w' => e = .returned (.bool true) ∧ Below w.heap.size w w' := by
  have h1 := blk_new w (.cells #[.int .i64 0, .int .i64 0, .int .i64 0, .int .i64 0, .int .i64 0, .int .i64 0, .int .i64 0, .int .i64 2] 86)
  have hb := below_alloc (Below.refl w.heap.size w) (.cells #[.int .i64 0, .int .i64 0, .int .i64 0, .int .i64 0, .int .i64 0, .int .i64 0, .int .i64 0, .int .i64 2] 86)
  go_enter Try.func59, Try.ntmps59
  go_wp2_with fail
  generalize (w.alloc (.cells #[.int .i64 0, .int .i64 0, .int .i64 0, .int .i64 0, .int .i64 0, .int .i64 0, .int .i64 0, .int .i64 2] 86)) = w2 at h1 hb ⊢
  refine (step_calls w2 [⟨0, 0, 0, 0⟩, ⟨0, 0, 0, 2⟩] (some ⟨w.heap.size, 0, none⟩) 2 rfl (c4_two w2 _ h1) (by decide) (by decide)).mono ?_
  rintro e w3 ⟨rfl, hb3⟩
  have HY := Aside0.mk (blk_new w3 (.cells #[.int .i64 0, .bool false, .slice none 0 0, .slice none 0 0, .bool false, .bool false, .bool false, .bool false, .bool false, .int .i64 0, .int .i64 0, .int .i64 0, .int .i64 0, .int .i64 0, .int .i64 0] 93))
  have HB := Aside0.mk (below_alloc (below_then hb hb.size hb3) (.cells #[.int .i64 0, .bool false, .slice none 0 0, .slice none 0 0, .bool false, .bool false, .bool false, .bool false, .bool false, .int .i64 0, .int .i64 0, .int .i64 0, .int .i64 0, .int .i64 0, .int .i64 0] 93))
  have hsz : w.heap.size ≤ w3.heap.size := Nat.le_trans hb.size hb3.size
  clear hb3 h1 hb
  generalize hw4 : w3.alloc (.cells #[.int .i64 0, .bool false, .slice none 0 0, .slice none 0 0, .bool false, .bool false, .bool false, .bool false, .bool false, .int .i64 0, .int .i64 0, .int .i64 0, .int .i64 0, .int .i64 0, .int .i64 0] 93) = w4 at HY HB
  have HZ := Aside0.mk (setRow_heap w4 w3.heap.size _ #[.int .i64 1, .bool false, .slice none 0 0, .slice none 0 0, .bool false, .bool false, .bool false, .bool false, .bool true, .int .i64 0, .int .i64 0, .int .i64 0, .int .i64 0, .int .i64 1, .int .i64 0] 93 (0, 0) HY.out)
  have HB5 := Aside0.mk (below_setRow HB.out hsz #[.int .i64 1, .bool false, .slice none 0 0, .slice none 0 0, .bool false, .bool false, .bool false, .bool false, .bool true, .int .i64 0, .int .i64 0, .int .i64 0, .int .i64 0, .int .i64 1, .int .i64 0] (g := w3.heap.size))
  generalize hw5 : w4.setRow w3.heap.size #[.int .i64 1, .bool false, .slice none 0 0, .slice none 0 0, .bool false, .bool false, .bool false, .bool false, .bool true, .int .i64 0, .int .i64 0, .int .i64 0, .int .i64 0, .int .i64 1, .int .i64 0] = w5 at HZ HB5
  have hc14 : w5.cell? ⟨w3.heap.size, 14, none⟩ = some (.int .i64 0) := (blk_cell HZ.out 14).trans rfl
  have hc0 : w5.cell? ⟨w3.heap.size, 0, none⟩ = some (.int .i64 1) := (blk_cell HZ.out 0).trans rfl
  have hc1 : w5.cell? ⟨w3.heap.size, 1, none⟩ = some (.bool false) := (blk_cell HZ.out 1).trans rfl
  go_wp2_with ((with_reducible refine gate_store (t := 93) (p := 1) rfl ?_); refine wpList_store_row rfl 93 (.tmp 1) (.tmp 7) rfl w3.heap.size _ rfl rfl 93 _ HY.out (by kernel_rfl) rfl (by simp [Value.oneCell']) ?_)
  go_ret
  exact ⟨by first | rfl | simp, HB5.out⟩
end Go.Proofs.Ytbeefbhoccdicaa.Awake8

