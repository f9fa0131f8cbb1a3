/- The law's own example of a program's step: the source tells its neighbour. -/
import Derived.Test.YtbeefbhoccdicaaKernM
import Derived.BigQuiet
import Derived.Laws.CopyOwn
namespace Go.Proofs.Ytbeefbhoccdicaa.AwakeK
open Go.RowKit Go.Proofs.YtbeefbhoccdicaaW.PrintWords Go.Proofs.YtbeefbhoccdicaaW.PrintLast Go.Proofs.YtbeefbhoccdicaaW.PrintMore Go.Proofs.Ytbeefbhoccdicaa.QGraphReads Go.Proofs.Ytbeefbhoccdicaa.KernM
set_option linter.unusedVariables false
set_option linter.unusedSimpArgs false

/-- The example's input, the example's output. -/
def inC (A : Option Addr) (B : Addr) : Array Value := #[.int .i64 0, .int .i64 1, .int .i64 0, .slice A 1 1, .bool false, .slice none 0 0, .bool false, .bool false, .bool false, .bool false, .bool false, .int .i64 0, .int .i64 0, .int .i64 0, .int .i64 0, .int .i64 0, .int .i64 2, .slice (some B) 1 1]
def outC (u : Value) : Array Value := #[.int .i64 0, .bool true, u, .slice none 0 0, .bool false, .bool false, .bool false, .bool false, .bool false, .int .i64 0, .int .i64 0, .int .i64 0, .int .i64 0, .int .i64 0, .int .i64 0]

set_option maxHeartbeats 4000000 in
set_option maxRecDepth 100000 in
theorem bfs_calls (w : World) (A : Option Addr) (B : Addr) (hr : Kd.C k67 w A 1 [⟨2, 0⟩]) (hp : w.cell? B = some (.int .i64 1)) :
    Calls Try.prog 94 #[.agg (inC A B)] w fun e w' => (∃ u, e = .returned (.agg (outC u)) ∧ Kd.R k4 86 w' w.heap.size (fun _ => True) u [⟨1, 2, 0, 1⟩]) ∧ Below w.heap.size w w' := by
  unfold inC
  have HR := Aside0.mk hr
  have hlt := World.block_lt_of_cell? _ _ hp
  have hneB : (B.block = w.heap.size) = False := eq_false (by omega)
  have hneB2 : (B.block = w.heap.size + 1) = False := eq_false (by omega)
  have hltB2 : B.block < w.heap.size + 1 := by omega
  clear hr
  go_enter Try.func94, Try.ntmps94
  go_wp2_with fail
  go_quiet (fail)
  have HX := Aside0.mk (blk_drewN (blk_alloc (blk_new w (.cells #[.int .i64 0, .int .i64 1, .int .i64 0, .slice A 1 1, .bool false, .slice none 0 0, .bool false, .bool false, .bool false, .bool false, .bool false, .int .i64 0, .int .i64 0, .int .i64 0, .int .i64 0, .int .i64 0, .int .i64 2, .slice (some B) 1 1] 81)) (.cells #[.int .i64 0, .bool false, .slice none 0 0, .slice none 0 0, .bool false, .bool false, .bool false, .bool false, .bool false, .int .i64 0, .int .i64 0, .int .i64 0, .int .i64 0, .int .i64 0, .int .i64 0] 93)) nq)
  have HY := Aside0.mk (blk_drewN (blk_new (w.alloc (.cells #[.int .i64 0, .int .i64 1, .int .i64 0, .slice A 1 1, .bool false, .slice none 0 0, .bool false, .bool false, .bool false, .bool false, .bool false, .int .i64 0, .int .i64 0, .int .i64 0, .int .i64 0, .int .i64 0, .int .i64 2, .slice (some B) 1 1] 81)) (.cells #[.int .i64 0, .bool false, .slice none 0 0, .slice none 0 0, .bool false, .bool false, .bool false, .bool false, .bool false, .int .i64 0, .int .i64 0, .int .i64 0, .int .i64 0, .int .i64 0, .int .i64 0] 93)) nq)
  have HB := Aside0.mk (pw_below_drewN (below_alloc (below_alloc (Below.refl w.heap.size w) (.cells #[.int .i64 0, .int .i64 1, .int .i64 0, .slice A 1 1, .bool false, .slice none 0 0, .bool false, .bool false, .bool false, .bool false, .bool false, .int .i64 0, .int .i64 0, .int .i64 0, .int .i64 0, .int .i64 0, .int .i64 2, .slice (some B) 1 1] 81)) (.cells #[.int .i64 0, .bool false, .slice none 0 0, .slice none 0 0, .bool false, .bool false, .bool false, .bool false, .bool false, .int .i64 0, .int .i64 0, .int .i64 0, .int .i64 0, .int .i64 0, .int .i64 0] 93)) nq)
  rw [World.size_alloc] at HY
  generalize (((w.alloc (.cells #[.int .i64 0, .int .i64 1, .int .i64 0, .slice A 1 1, .bool false, .slice none 0 0, .bool false, .bool false, .bool false, .bool false, .bool false, .int .i64 0, .int .i64 0, .int .i64 0, .int .i64 0, .int .i64 0, .int .i64 2, .slice (some B) 1 1] 81)).alloc (.cells #[.int .i64 0, .bool false, .slice none 0 0, .slice none 0 0, .bool false, .bool false, .bool false, .bool false, .bool false, .int .i64 0, .int .i64 0, .int .i64 0, .int .i64 0, .int .i64 0, .int .i64 0] 93)).drewN nq) = w2 at HX HY HB ⊢
  have HR2 := Aside0.mk (Kd.C_below HR.out HB.out)
  clear hp hlt hneB hneB2 hltB2 HR
  go_wp2_with (first | (with_reducible refine gate_dst (N := 34) rfl ?_); refine wpList_load_row rfl 81 (.tmp 1) rfl w.heap.size rfl 81 _ (0, 0) _ HX.out Try.underlying81 rfl (by kernel_rfl) ?_)
  refine (to_calls w2 [⟨2, 0⟩] A 1 1 1 _ _ _ _ _ _ _ _ _ _ _ _ _ _ _ _ HR2.out (by decide)).mono ?_
  rintro e w3 ⟨⟨u, rfl, hu⟩, hb3⟩
  have HU := Aside0.mk hu
  have HY3 := Aside0.mk (blk_below HY.out hb3)
  have HB3 := Aside0.mk (below_then HB.out HB.out.size hb3)
  have HB23 := Aside0.mk hb3
  clear hu hb3
  obtain ⟨A5, c5, hA5, hl5, hC5⟩ := Kd.R_reads HU.out
  subst hA5
  clear hl5 hC5
  go_wp2_with (first | (with_reducible refine gate_store (t := 93) (p := 2) rfl ?_); refine wpList_store_row rfl 93 (.tmp 2) (.tmp 38) rfl (w.heap.size + 1) _ rfl rfl 93 _ HY3.out (by kernel_rfl) rfl (by simp [Value.oneCell']) ?_)
  refine bodyPost_ret (results_cell_row rfl _ _ (w.heap.size + 1) 93 _ (0, 0) _ rfl (setRow_heap _ _ _ _ _ _ HY3.out) Try.underlying93 rfl (by kernel_rfl)) rfl ?_
  refine ⟨⟨_, rfl, Kd.R_mono (Kd.R_step (Kd.R_lower (Kd.R_bound HU.out) HB.out.size) ?_) (fun _ _ => trivial)⟩, below_setRow HB3.out (Nat.le_succ _) _⟩
  intro k hk hlt
  have := blk_lt HY.out
  exact setRow_other _ _ _ _ (by have := hk.2.1; omega)

set_option maxHeartbeats 4000000 in
set_option maxRecDepth 100000 in
theorem step_calls (w : World) (A : Option Addr) (B : Addr) (hr : Kd.C k67 w A 1 [⟨2, 0⟩]) (hp : w.cell? B = some (.int .i64 1)) :
    Calls Try.prog 48 #[.string ⟨#[98, 102, 115]⟩, .agg (inC A B)] w fun e w' => (∃ u, e = .returned (.agg (outC u)) ∧ Kd.R k4 86 w' w.heap.size (fun _ => True) u [⟨1, 2, 0, 1⟩]) ∧ Below w.heap.size w w' := by
  unfold inC
  have HX := Aside0.mk (blk_alloc (blk_new w (.cells #[.int .i64 0, .int .i64 1, .int .i64 0, .slice A 1 1, .bool false, .slice none 0 0, .bool false, .bool false, .bool false, .bool false, .bool false, .int .i64 0, .int .i64 0, .int .i64 0, .int .i64 0, .int .i64 0, .int .i64 2, .slice (some B) 1 1] 81)) (.cells #[.int .i64 0, .bool false, .slice none 0 0, .slice none 0 0, .bool false, .bool false, .bool false, .bool false, .bool false, .int .i64 0, .int .i64 0, .int .i64 0, .int .i64 0, .int .i64 0, .int .i64 0] 93))
  have HY := Aside0.mk (blk_new (w.alloc (.cells #[.int .i64 0, .int .i64 1, .int .i64 0, .slice A 1 1, .bool false, .slice none 0 0, .bool false, .bool false, .bool false, .bool false, .bool false, .int .i64 0, .int .i64 0, .int .i64 0, .int .i64 0, .int .i64 0, .int .i64 2, .slice (some B) 1 1] 81)) (.cells #[.int .i64 0, .bool false, .slice none 0 0, .slice none 0 0, .bool false, .bool false, .bool false, .bool false, .bool false, .int .i64 0, .int .i64 0, .int .i64 0, .int .i64 0, .int .i64 0, .int .i64 0] 93))
  have HB := Aside0.mk (below_alloc (below_alloc (Below.refl w.heap.size w) (.cells #[.int .i64 0, .int .i64 1, .int .i64 0, .slice A 1 1, .bool false, .slice none 0 0, .bool false, .bool false, .bool false, .bool false, .bool false, .int .i64 0, .int .i64 0, .int .i64 0, .int .i64 0, .int .i64 0, .int .i64 2, .slice (some B) 1 1] 81)) (.cells #[.int .i64 0, .bool false, .slice none 0 0, .slice none 0 0, .bool false, .bool false, .bool false, .bool false, .bool false, .int .i64 0, .int .i64 0, .int .i64 0, .int .i64 0, .int .i64 0, .int .i64 0] 93))
  have hz : ((w.alloc (.cells #[.int .i64 0, .int .i64 1, .int .i64 0, .slice A 1 1, .bool false, .slice none 0 0, .bool false, .bool false, .bool false, .bool false, .bool false, .int .i64 0, .int .i64 0, .int .i64 0, .int .i64 0, .int .i64 0, .int .i64 2, .slice (some B) 1 1] 81)).alloc (.cells #[.int .i64 0, .bool false, .slice none 0 0, .slice none 0 0, .bool false, .bool false, .bool false, .bool false, .bool false, .int .i64 0, .int .i64 0, .int .i64 0, .int .i64 0, .int .i64 0, .int .i64 0] 93)).heap.size = w.heap.size + 1 + 1 := by rw [World.size_alloc, World.size_alloc]
  rw [World.size_alloc] at HY
  generalize hw2 : ((w.alloc (.cells #[.int .i64 0, .int .i64 1, .int .i64 0, .slice A 1 1, .bool false, .slice none 0 0, .bool false, .bool false, .bool false, .bool false, .bool false, .int .i64 0, .int .i64 0, .int .i64 0, .int .i64 0, .int .i64 0, .int .i64 2, .slice (some B) 1 1] 81)).alloc (.cells #[.int .i64 0, .bool false, .slice none 0 0, .slice none 0 0, .bool false, .bool false, .bool false, .bool false, .bool false, .int .i64 0, .int .i64 0, .int .i64 0, .int .i64 0, .int .i64 0, .int .i64 0] 93)) = w2 at HX HY HB hz
  have HR2 := Aside0.mk (Kd.C_below hr HB.out)
  have hp2 : w2.cell? B = some (.int .i64 1) := (HB.out.cell (World.block_lt_of_cell? _ _ hp)).trans hp
  clear hp hr
  go_enter Try.func48, Try.ntmps48
  go_wp2_with (first | (with_reducible refine gate_dst (N := 8) rfl ?_); refine wpList_load_row rfl 81 (.tmp 3) rfl w.heap.size rfl 81 _ (0, 0) _ HX.out Try.underlying81 rfl (by kernel_rfl) ?_)
  refine (bfs_calls w2 A B HR2.out hp2).mono ?_
  unfold outC
  rintro e w3 ⟨⟨u, rfl, hu⟩, hb3⟩
  have HU := Aside0.mk hu
  have HY3 := Aside0.mk (blk_below HY.out hb3)
  have HB3 := Aside0.mk (below_then HB.out HB.out.size hb3)
  clear hu hb3
  obtain ⟨A5, c5, hA5, hl5, hC5⟩ := Kd.R_reads HU.out
  subst hA5
  clear hl5 hC5 hp2 hw2
  go_wp2_with (first | (with_reducible refine gate_store (t := 93) (p := 4) rfl ?_); refine wpList_store_row rfl 93 (.tmp 4) (.tmp 9) rfl (w.heap.size + 1) _ rfl rfl 93 _ HY3.out (by kernel_rfl) rfl (by simp [Value.oneCell']) ?_)
  refine bodyPost_ret (results_cell_row rfl _ _ (w.heap.size + 1) 93 _ (0, 0) _ rfl (setRow_heap _ _ _ _ _ _ HY3.out) Try.underlying93 rfl (by kernel_rfl)) rfl ?_
  refine ⟨⟨_, rfl, Kd.R_mono (Kd.R_step (Kd.R_lower (Kd.R_bound HU.out) HB.out.size) ?_) (fun _ _ => trivial)⟩, below_setRow HB3.out (Nat.le_succ _) _⟩
  intro k hk hlt
  exact setRow_other _ _ _ _ (by have := hk.2.1; omega)

theorem e67_one (w : World) (b : Nat) (x : S67) (h : w.heap[b]? = some (.cells #[.int .i64 x.f0, .int .i64 x.f1] 67 (0, 0))) : Kd.C k67 w (some ⟨b, 0, none⟩) 1 [x] := by
  refine ⟨rfl, by decide, fun _ => ⟨_, rfl, ?_⟩⟩
  intro j p hj
  have hj0 : j = 0 := by
    have := (List.getElem?_eq_some_iff.1 hj).1
    simp at this
    exact this
  subst hj0
  have hp : x = p := by simpa using hj
  subst hp
  refine ⟨_, rfl, k67_mk w x, ?_⟩
  intro i u hi
  have hlt := (List.getElem?_eq_some_iff.1 hi).1
  have h2 : i = 0 ∨ i = 1 := by simp at hlt; omega
  rcases h2 with rfl | rfl
  · exact (blk_cell h 0).trans (by simpa using hi)
  · exact (blk_cell h 1).trans (by simpa using hi)

set_option maxHeartbeats 4000000 in
set_option maxRecDepth 100000 in
theorem awake_calls (w : World) : Calls Try.prog 44 #[] w fun e w' => e = .returned (.bool true) ∧ Below w.heap.size w w' := by
  have h1 := blk_alloc (blk_new w (.cells #[.int .i64 2, .int .i64 0] 67)) (.cells #[.int .i64 1] 2)
  have h2 := blk_new (w.alloc (.cells #[.int .i64 2, .int .i64 0] 67)) (.cells #[.int .i64 1] 2)
  have hb := below_alloc (below_alloc (Below.refl w.heap.size w) (.cells #[.int .i64 2, .int .i64 0] 67)) (.cells #[.int .i64 1] 2)
  rw [World.size_alloc] at h2
  go_enter Try.func44, Try.ntmps44
  go_wp2_with fail
  generalize ((w.alloc (.cells #[.int .i64 2, .int .i64 0] 67)).alloc (.cells #[.int .i64 1] 2)) = w2 at h1 h2 hb ⊢
  refine (step_calls w2 (some ⟨w.heap.size, 0, none⟩) ⟨w.heap.size + 1, 0, none⟩ (e67_one w2 _ ⟨2, 0⟩ h1) ((blk_cell h2 0).trans rfl)).mono ?_
  unfold outC
  rintro e w3 ⟨⟨u, rfl, hu⟩, hb3⟩
  have hb4 := below_alloc (below_then hb hb.size hb3) (.cells #[.int .i64 0, .bool false, .slice none 0 0, .slice none 0 0, .bool false, .bool false, .bool false, .bool false, .bool false, .int .i64 0, .int .i64 0, .int .i64 0, .int .i64 0, .int .i64 0, .int .i64 0] 93)
  have hy4 := blk_new w3 (.cells #[.int .i64 0, .bool false, .slice none 0 0, .slice none 0 0, .bool false, .bool false, .bool false, .bool false, .bool false, .int .i64 0, .int .i64 0, .int .i64 0, .int .i64 0, .int .i64 0, .int .i64 0] 93)
  have hu4 := Kd.R_alloc hu (.cells #[.int .i64 0, .bool false, .slice none 0 0, .slice none 0 0, .bool false, .bool false, .bool false, .bool false, .bool false, .int .i64 0, .int .i64 0, .int .i64 0, .int .i64 0, .int .i64 0, .int .i64 0] 93)
  have HU := Aside0.mk hu4
  have HY := Aside0.mk hy4
  have HB := Aside0.mk hb4
  have hbs := hb.size
  have hbs3 := hb3.size
  have hz : w2.heap.size ≤ w3.heap.size := hbs3
  clear hu hu4 hy4 hb4 hb3 h1 h2 hb
  obtain ⟨g5, c5, hA5, hg5, hl5, -⟩ := Kd.R_form HU.out (by decide)
  subst hA5
  generalize hw4 : w3.alloc (.cells #[.int .i64 0, .bool false, .slice none 0 0, .slice none 0 0, .bool false, .bool false, .bool false, .bool false, .bool false, .int .i64 0, .int .i64 0, .int .i64 0, .int .i64 0, .int .i64 0, .int .i64 0] 93) = w4 at HU HY HB
  have HZ := Aside0.mk (setRow_heap w4 w3.heap.size _ #[.int .i64 0, .bool true, .slice (some ⟨g5, 0, none⟩) 1 c5, .slice none 0 0, .bool false, .bool false, .bool false, .bool false, .bool false, .int .i64 0, .int .i64 0, .int .i64 0, .int .i64 0, .int .i64 0, .int .i64 0] 93 (0, 0) HY.out)
  have HU5 := Aside0.mk (Kd.R_step (w1 := w4.setRow w3.heap.size #[.int .i64 0, .bool true, .slice (some ⟨g5, 0, none⟩) 1 c5, .slice none 0 0, .bool false, .bool false, .bool false, .bool false, .bool false, .int .i64 0, .int .i64 0, .int .i64 0, .int .i64 0, .int .i64 0, .int .i64 0]) (Kd.R_types HU.out HY.out (by decide)) (fun k hk _ => setRow_other _ _ _ _ hk.2))
  have HB5 := Aside0.mk (below_setRow HB.out (by omega) #[.int .i64 0, .bool true, .slice (some ⟨g5, 0, none⟩) 1 c5, .slice none 0 0, .bool false, .bool false, .bool false, .bool false, .bool false, .int .i64 0, .int .i64 0, .int .i64 0, .int .i64 0, .int .i64 0, .int .i64 0] (g := w3.heap.size))
  generalize hw5 : w4.setRow w3.heap.size #[.int .i64 0, .bool true, .slice (some ⟨g5, 0, none⟩) 1 c5, .slice none 0 0, .bool false, .bool false, .bool false, .bool false, .bool false, .int .i64 0, .int .i64 0, .int .i64 0, .int .i64 0, .int .i64 0, .int .i64 0] = w5 at HZ HU5 HB5
  have hc14 : w5.cell? ⟨w3.heap.size, 14, none⟩ = some (.int .i64 0) := (blk_cell HZ.out 14).trans rfl
  have hc1 : w5.cell? ⟨w3.heap.size, 1, none⟩ = some (.bool true) := (blk_cell HZ.out 1).trans rfl
  have hc2 : w5.cell? ⟨w3.heap.size, 2, none⟩ = some (.slice (some ⟨g5, 0, none⟩) 1 c5) := (blk_cell HZ.out 2).trans rfl
  obtain ⟨_, _, hC5⟩ := Kd.R_reads' HU5.out
  obtain ⟨ad, had, -, hm1, -, hm3⟩ := at4 hC5 0 (by decide) (by decide)
  obtain rfl := Option.some.inj had
  replace hm1 : w5.cell? ⟨g5, 1, none⟩ = some (.int .i64 2) := hm1
  replace hm3 : w5.cell? ⟨g5, 3, none⟩ = some (.int .i64 1) := hm3
  clear had hC5
  go_wp2_with (first | (with_reducible refine gate_store (t := 93) (p := 1) rfl ?_); refine wpList_store_row rfl 93 (.tmp 1) (.tmp 7) rfl w3.heap.size _ rfl rfl 93 _ HY.out (by kernel_rfl) rfl (by simp [Value.oneCell']) ?_)
  go_ret
  exact ⟨by first | rfl | simp, HB5.out⟩
end Go.Proofs.Ytbeefbhoccdicaa.AwakeK
