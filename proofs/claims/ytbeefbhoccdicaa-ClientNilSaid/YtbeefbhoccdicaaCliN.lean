/- ClientNil: the law's own code, walked. -/
import Derived.Test.YtbeefbhoccdicaaCliW
namespace Go.Proofs.Ytbeefbhoccdicaa.CliN
open Go.RowKit Go.Proofs.YtbeefbhoccdicaaW.PrintWords Go.Proofs.YtbeefbhoccdicaaW.PrintLast Go.Proofs.YtbeefbhoccdicaaW.PrintMore Go.Proofs.Ytbeefbhoccdicaa.QGraphReads Go.Proofs.Ytbeefbhoccdicaa.CloneC Go.Proofs.Ytbeefbhoccdicaa.CliA Go.Proofs.Ytbeefbhoccdicaa.CliH Go.Proofs.Ytbeefbhoccdicaa.CliV Go.Proofs.Ytbeefbhoccdicaa.CliB Go.Proofs.Ytbeefbhoccdicaa.CliW
set_option linter.unusedVariables false
set_option linter.unusedSimpArgs false

theorem kp_tick {w : World} (m : BW w) : Calls Try.prog 69 #[.pointer none] m.w' fun e w'' => e = .returned (.slice none 0 0) ∧ ∃ n : BW w, w'' = n.w' := quietB m ((tick_nil m.w').mono (fun _ _ ⟨h1, k, h2⟩ => ⟨h1, by rw [h2]; exact (Kp.refl m.w').drewN k⟩))
theorem kp_ended {w : World} (m : BW w) : Calls Try.prog 67 #[.pointer none] m.w' fun e w'' => e = .returned (.bool true) ∧ ∃ n : BW w, w'' = n.w' := quietB m ((ended_nil m.w').mono (fun _ _ ⟨h1, k, h2⟩ => ⟨h1, by rw [h2]; exact (Kp.refl m.w').drewN k⟩))
theorem kp_at {w : World} (m : BW w) : Calls Try.prog 70 #[.pointer none] m.w' fun e w'' => e = .returned (.int .i64 0) ∧ ∃ n : BW w, w'' = n.w' := quietB m ((at_nil m.w').mono (fun _ _ ⟨h1, h2⟩ => ⟨h1, by rw [← h2]; exact Kp.refl m.w'⟩))
theorem kp_heard {w : World} (m : BW w) : Calls Try.prog 66 #[.pointer none] m.w' fun e w'' => e = .returned (.slice none 0 0) ∧ ∃ n : BW w, w'' = n.w' := quietB m ((heard_nil m.w').mono (fun _ _ ⟨h1, h2⟩ => ⟨h1, by rw [← h2]; exact Kp.refl m.w'⟩))
theorem kp_session {w : World} (m : BW w) : Calls Try.prog 71 #[.pointer none] m.w' fun e w'' => e = .returned (.int .i64 0) ∧ ∃ n : BW w, w'' = n.w' := quietB m ((session_nil m.w').mono (fun _ _ ⟨h1, h2⟩ => ⟨h1, by rw [← h2]; exact Kp.refl m.w'⟩))
theorem kp_awake {w : World} (m : BW w) : Calls Try.prog 64 #[] m.w' fun e w'' => e = .returned (.bool true) ∧ ∃ n : BW w, w'' = n.w' := quietB m (awake_calls m.w')
theorem kp_check {w : World} (m : BW w) (k id : Int) (s : ByteArray) (b : Bool) (hb : (decide (k ≥ 1) && decide (k ≤ 4) && decide (id ≥ 0)) = b) : Calls Try.prog 72 #[.agg #[.int .i64 k, .string s, .int .i64 id]] m.w' fun e w'' => e = .returned (.bool b) ∧ ∃ n : BW w, w'' = n.w' :=
  quietB m ((check_calls m.w' k id s).mono (fun _ _ ⟨h1, h2⟩ => ⟨by rw [h1, hb], Kp.of_below h2⟩))
set_option maxHeartbeats 8000000 in
set_option maxRecDepth 100000 in
theorem nil_00 (w : World) (n ma k id : Int) (s : ByteArray) (a0 : ¬ n ≥ 0) (c0 : ¬ k ≥ 1) :
    Calls Try.prog 13 #[.int .i64 n, .int .i64 ma, .agg #[.int .i64 k, .string s, .int .i64 id]] w fun e w' => e = .returned (.bool true) ∧ Kp w w' := by
  have HB : Aside0 ((decide (k ≥ 1) && decide (k ≤ 4) && decide (id ≥ 0)) = false) := Aside0.mk (by rw [decide_eq_false c0]; simp)
  have HN := Aside0.mk (show ¬ ((0 ≤ n ∧ n < 8) ∧ (1 ≤ ma ∧ ma ≤ 7)) by omega)
  have d0 : decide (n ≥ 0) = false := decide_eq_false a0
  have e0 : decide (k ≥ 1) = false := decide_eq_false c0
  clear a0 c0
  go_enter Try.func13, Try.ntmps13
  go_wp2_with fail
  refine (handle_nil _ _ rfl).mono ?_
  rintro e w2 ⟨rfl, hb2⟩
  have HX2 := Aside0.mk (blk_below (blk_new w (.cells #[.int .i64 k, .string s, .int .i64 id] 115)) hb2)
  have HK2 := Aside0.mk ((Kp.of_below (below_alloc (Below.refl w.heap.size w) (.cells #[.int .i64 k, .string s, .int .i64 id] 115))).trans hb2)
  clear hb2
  go_wp2_with fail
  refine (new_bad w2 n ma _ HN.out).mono ?_
  rintro e w3 ⟨rfl, rfl⟩
  have HX3 := HX2
  have HK3 := HK2
  have x0 : ∀ m : BW w2, m.w'.cell? ⟨w.heap.size, 0, none⟩ = some (.int .i64 k) := fun m => m.h.cell ((blk_cell HX3.out 0).trans rfl)
  have x1 : ∀ m : BW w2, m.w'.cell? ⟨w.heap.size, 1, none⟩ = some (.string s) := fun m => m.h.cell ((blk_cell HX3.out 1).trans rfl)
  have x2 : ∀ m : BW w2, m.w'.cell? ⟨w.heap.size, 2, none⟩ = some (.int .i64 id) := fun m => m.h.cell ((blk_cell HX3.out 2).trans rfl)
  go_wp2_with fail
  refine region_quietB (by kernel_rfl) (by kernel_rfl) ?_
  repeat (go_big_quiet_step (first | (go_at_call 64; exact kp_awake _) | (go_at_call 69; exact kp_tick _) | (go_at_call 67; exact kp_ended _) | (go_at_call 70; exact kp_at _) | (go_at_call 66; exact kp_heard _) | (go_at_call 71; exact kp_session _) | (go_at_call 72; exact kp_check _ _ _ _ _ HB.out)))
  refine wpQuiet_nil ?_
  rintro _ ⟨nq, rfl⟩
  go_wp2_with fail
  go_ret
  exact ⟨rfl, HK3.out.trans nq.h⟩
set_option maxHeartbeats 8000000 in
set_option maxRecDepth 100000 in
theorem nil_01 (w : World) (n ma k id : Int) (s : ByteArray) (a0 : ¬ n ≥ 0) (c0 : k ≥ 1) (c1 : ¬ k ≤ 4) :
    Calls Try.prog 13 #[.int .i64 n, .int .i64 ma, .agg #[.int .i64 k, .string s, .int .i64 id]] w fun e w' => e = .returned (.bool true) ∧ Kp w w' := by
  have HB : Aside0 ((decide (k ≥ 1) && decide (k ≤ 4) && decide (id ≥ 0)) = false) := Aside0.mk (by rw [decide_eq_true c0, decide_eq_false c1]; simp)
  have HN := Aside0.mk (show ¬ ((0 ≤ n ∧ n < 8) ∧ (1 ≤ ma ∧ ma ≤ 7)) by omega)
  have d0 : decide (n ≥ 0) = false := decide_eq_false a0
  have e0 : decide (k ≥ 1) = true := decide_eq_true c0
  have e1 : decide (k ≤ 4) = false := decide_eq_false c1
  clear a0 c0 c1
  go_enter Try.func13, Try.ntmps13
  go_wp2_with fail
  refine (handle_nil _ _ rfl).mono ?_
  rintro e w2 ⟨rfl, hb2⟩
  have HX2 := Aside0.mk (blk_below (blk_new w (.cells #[.int .i64 k, .string s, .int .i64 id] 115)) hb2)
  have HK2 := Aside0.mk ((Kp.of_below (below_alloc (Below.refl w.heap.size w) (.cells #[.int .i64 k, .string s, .int .i64 id] 115))).trans hb2)
  clear hb2
  go_wp2_with fail
  refine (new_bad w2 n ma _ HN.out).mono ?_
  rintro e w3 ⟨rfl, rfl⟩
  have HX3 := HX2
  have HK3 := HK2
  have x0 : ∀ m : BW w2, m.w'.cell? ⟨w.heap.size, 0, none⟩ = some (.int .i64 k) := fun m => m.h.cell ((blk_cell HX3.out 0).trans rfl)
  have x1 : ∀ m : BW w2, m.w'.cell? ⟨w.heap.size, 1, none⟩ = some (.string s) := fun m => m.h.cell ((blk_cell HX3.out 1).trans rfl)
  have x2 : ∀ m : BW w2, m.w'.cell? ⟨w.heap.size, 2, none⟩ = some (.int .i64 id) := fun m => m.h.cell ((blk_cell HX3.out 2).trans rfl)
  go_wp2_with fail
  refine region_quietB (by kernel_rfl) (by kernel_rfl) ?_
  repeat (go_big_quiet_step (first | (go_at_call 64; exact kp_awake _) | (go_at_call 69; exact kp_tick _) | (go_at_call 67; exact kp_ended _) | (go_at_call 70; exact kp_at _) | (go_at_call 66; exact kp_heard _) | (go_at_call 71; exact kp_session _) | (go_at_call 72; exact kp_check _ _ _ _ _ HB.out)))
  refine wpQuiet_nil ?_
  rintro _ ⟨nq, rfl⟩
  go_wp2_with fail
  go_ret
  exact ⟨rfl, HK3.out.trans nq.h⟩
set_option maxHeartbeats 8000000 in
set_option maxRecDepth 100000 in
theorem nil_02 (w : World) (n ma k id : Int) (s : ByteArray) (a0 : ¬ n ≥ 0) (c0 : k ≥ 1) (c1 : k ≤ 4) (c2 : ¬ id ≥ 0) :
    Calls Try.prog 13 #[.int .i64 n, .int .i64 ma, .agg #[.int .i64 k, .string s, .int .i64 id]] w fun e w' => e = .returned (.bool true) ∧ Kp w w' := by
  have HB : Aside0 ((decide (k ≥ 1) && decide (k ≤ 4) && decide (id ≥ 0)) = false) := Aside0.mk (by rw [decide_eq_true c0, decide_eq_true c1, decide_eq_false c2]; simp)
  have HN := Aside0.mk (show ¬ ((0 ≤ n ∧ n < 8) ∧ (1 ≤ ma ∧ ma ≤ 7)) by omega)
  have d0 : decide (n ≥ 0) = false := decide_eq_false a0
  have e0 : decide (k ≥ 1) = true := decide_eq_true c0
  have e1 : decide (k ≤ 4) = true := decide_eq_true c1
  have e2 : decide (id ≥ 0) = false := decide_eq_false c2
  clear a0 c0 c1 c2
  go_enter Try.func13, Try.ntmps13
  go_wp2_with fail
  refine (handle_nil _ _ rfl).mono ?_
  rintro e w2 ⟨rfl, hb2⟩
  have HX2 := Aside0.mk (blk_below (blk_new w (.cells #[.int .i64 k, .string s, .int .i64 id] 115)) hb2)
  have HK2 := Aside0.mk ((Kp.of_below (below_alloc (Below.refl w.heap.size w) (.cells #[.int .i64 k, .string s, .int .i64 id] 115))).trans hb2)
  clear hb2
  go_wp2_with fail
  refine (new_bad w2 n ma _ HN.out).mono ?_
  rintro e w3 ⟨rfl, rfl⟩
  have HX3 := HX2
  have HK3 := HK2
  have x0 : ∀ m : BW w2, m.w'.cell? ⟨w.heap.size, 0, none⟩ = some (.int .i64 k) := fun m => m.h.cell ((blk_cell HX3.out 0).trans rfl)
  have x1 : ∀ m : BW w2, m.w'.cell? ⟨w.heap.size, 1, none⟩ = some (.string s) := fun m => m.h.cell ((blk_cell HX3.out 1).trans rfl)
  have x2 : ∀ m : BW w2, m.w'.cell? ⟨w.heap.size, 2, none⟩ = some (.int .i64 id) := fun m => m.h.cell ((blk_cell HX3.out 2).trans rfl)
  go_wp2_with fail
  refine region_quietB (by kernel_rfl) (by kernel_rfl) ?_
  repeat (go_big_quiet_step (first | (go_at_call 64; exact kp_awake _) | (go_at_call 69; exact kp_tick _) | (go_at_call 67; exact kp_ended _) | (go_at_call 70; exact kp_at _) | (go_at_call 66; exact kp_heard _) | (go_at_call 71; exact kp_session _) | (go_at_call 72; exact kp_check _ _ _ _ _ HB.out)))
  refine wpQuiet_nil ?_
  rintro _ ⟨nq, rfl⟩
  go_wp2_with fail
  go_ret
  exact ⟨rfl, HK3.out.trans nq.h⟩
set_option maxHeartbeats 8000000 in
set_option maxRecDepth 100000 in
theorem nil_03 (w : World) (n ma k id : Int) (s : ByteArray) (a0 : ¬ n ≥ 0) (c0 : k ≥ 1) (c1 : k ≤ 4) (c2 : id ≥ 0) :
    Calls Try.prog 13 #[.int .i64 n, .int .i64 ma, .agg #[.int .i64 k, .string s, .int .i64 id]] w fun e w' => e = .returned (.bool true) ∧ Kp w w' := by
  have HB : Aside0 ((decide (k ≥ 1) && decide (k ≤ 4) && decide (id ≥ 0)) = true) := Aside0.mk (by rw [decide_eq_true c0, decide_eq_true c1, decide_eq_true c2]; rfl)
  have HN := Aside0.mk (show ¬ ((0 ≤ n ∧ n < 8) ∧ (1 ≤ ma ∧ ma ≤ 7)) by omega)
  have d0 : decide (n ≥ 0) = false := decide_eq_false a0
  have e0 : decide (k ≥ 1) = true := decide_eq_true c0
  have e1 : decide (k ≤ 4) = true := decide_eq_true c1
  have e2 : decide (id ≥ 0) = true := decide_eq_true c2
  clear a0 c0 c1 c2
  go_enter Try.func13, Try.ntmps13
  go_wp2_with fail
  refine (handle_nil _ _ rfl).mono ?_
  rintro e w2 ⟨rfl, hb2⟩
  have HX2 := Aside0.mk (blk_below (blk_new w (.cells #[.int .i64 k, .string s, .int .i64 id] 115)) hb2)
  have HK2 := Aside0.mk ((Kp.of_below (below_alloc (Below.refl w.heap.size w) (.cells #[.int .i64 k, .string s, .int .i64 id] 115))).trans hb2)
  clear hb2
  go_wp2_with fail
  refine (new_bad w2 n ma _ HN.out).mono ?_
  rintro e w3 ⟨rfl, rfl⟩
  have HX3 := HX2
  have HK3 := HK2
  have x0 : ∀ m : BW w2, m.w'.cell? ⟨w.heap.size, 0, none⟩ = some (.int .i64 k) := fun m => m.h.cell ((blk_cell HX3.out 0).trans rfl)
  have x1 : ∀ m : BW w2, m.w'.cell? ⟨w.heap.size, 1, none⟩ = some (.string s) := fun m => m.h.cell ((blk_cell HX3.out 1).trans rfl)
  have x2 : ∀ m : BW w2, m.w'.cell? ⟨w.heap.size, 2, none⟩ = some (.int .i64 id) := fun m => m.h.cell ((blk_cell HX3.out 2).trans rfl)
  go_wp2_with fail
  refine region_quietB (by kernel_rfl) (by kernel_rfl) ?_
  repeat (go_big_quiet_step (first | (go_at_call 64; exact kp_awake _) | (go_at_call 69; exact kp_tick _) | (go_at_call 67; exact kp_ended _) | (go_at_call 70; exact kp_at _) | (go_at_call 66; exact kp_heard _) | (go_at_call 71; exact kp_session _) | (go_at_call 72; exact kp_check _ _ _ _ _ HB.out)))
  refine wpQuiet_nil ?_
  rintro _ ⟨nq, rfl⟩
  go_wp2_with fail
  go_ret
  exact ⟨rfl, HK3.out.trans nq.h⟩
set_option maxHeartbeats 8000000 in
set_option maxRecDepth 100000 in
theorem nil_10 (w : World) (n ma k id : Int) (s : ByteArray) (a0 : n ≥ 0) (a1 : ¬ n < 8) (c0 : ¬ k ≥ 1) :
    Calls Try.prog 13 #[.int .i64 n, .int .i64 ma, .agg #[.int .i64 k, .string s, .int .i64 id]] w fun e w' => e = .returned (.bool true) ∧ Kp w w' := by
  have HB : Aside0 ((decide (k ≥ 1) && decide (k ≤ 4) && decide (id ≥ 0)) = false) := Aside0.mk (by rw [decide_eq_false c0]; simp)
  have HN := Aside0.mk (show ¬ ((0 ≤ n ∧ n < 8) ∧ (1 ≤ ma ∧ ma ≤ 7)) by omega)
  have d0 : decide (n ≥ 0) = true := decide_eq_true a0
  have d1 : decide (n < 8) = false := decide_eq_false a1
  have e0 : decide (k ≥ 1) = false := decide_eq_false c0
  clear a0 a1 c0
  go_enter Try.func13, Try.ntmps13
  go_wp2_with fail
  refine (handle_nil _ _ rfl).mono ?_
  rintro e w2 ⟨rfl, hb2⟩
  have HX2 := Aside0.mk (blk_below (blk_new w (.cells #[.int .i64 k, .string s, .int .i64 id] 115)) hb2)
  have HK2 := Aside0.mk ((Kp.of_below (below_alloc (Below.refl w.heap.size w) (.cells #[.int .i64 k, .string s, .int .i64 id] 115))).trans hb2)
  clear hb2
  go_wp2_with fail
  refine (new_bad w2 n ma _ HN.out).mono ?_
  rintro e w3 ⟨rfl, rfl⟩
  have HX3 := HX2
  have HK3 := HK2
  have x0 : ∀ m : BW w2, m.w'.cell? ⟨w.heap.size, 0, none⟩ = some (.int .i64 k) := fun m => m.h.cell ((blk_cell HX3.out 0).trans rfl)
  have x1 : ∀ m : BW w2, m.w'.cell? ⟨w.heap.size, 1, none⟩ = some (.string s) := fun m => m.h.cell ((blk_cell HX3.out 1).trans rfl)
  have x2 : ∀ m : BW w2, m.w'.cell? ⟨w.heap.size, 2, none⟩ = some (.int .i64 id) := fun m => m.h.cell ((blk_cell HX3.out 2).trans rfl)
  go_wp2_with fail
  refine region_quietB (by kernel_rfl) (by kernel_rfl) ?_
  repeat (go_big_quiet_step (first | (go_at_call 64; exact kp_awake _) | (go_at_call 69; exact kp_tick _) | (go_at_call 67; exact kp_ended _) | (go_at_call 70; exact kp_at _) | (go_at_call 66; exact kp_heard _) | (go_at_call 71; exact kp_session _) | (go_at_call 72; exact kp_check _ _ _ _ _ HB.out)))
  refine wpQuiet_nil ?_
  rintro _ ⟨nq, rfl⟩
  go_wp2_with fail
  go_ret
  exact ⟨rfl, HK3.out.trans nq.h⟩
set_option maxHeartbeats 8000000 in
set_option maxRecDepth 100000 in
theorem nil_11 (w : World) (n ma k id : Int) (s : ByteArray) (a0 : n ≥ 0) (a1 : ¬ n < 8) (c0 : k ≥ 1) (c1 : ¬ k ≤ 4) :
    Calls Try.prog 13 #[.int .i64 n, .int .i64 ma, .agg #[.int .i64 k, .string s, .int .i64 id]] w fun e w' => e = .returned (.bool true) ∧ Kp w w' := by
  have HB : Aside0 ((decide (k ≥ 1) && decide (k ≤ 4) && decide (id ≥ 0)) = false) := Aside0.mk (by rw [decide_eq_true c0, decide_eq_false c1]; simp)
  have HN := Aside0.mk (show ¬ ((0 ≤ n ∧ n < 8) ∧ (1 ≤ ma ∧ ma ≤ 7)) by omega)
  have d0 : decide (n ≥ 0) = true := decide_eq_true a0
  have d1 : decide (n < 8) = false := decide_eq_false a1
  have e0 : decide (k ≥ 1) = true := decide_eq_true c0
  have e1 : decide (k ≤ 4) = false := decide_eq_false c1
  clear a0 a1 c0 c1
  go_enter Try.func13, Try.ntmps13
  go_wp2_with fail
  refine (handle_nil _ _ rfl).mono ?_
  rintro e w2 ⟨rfl, hb2⟩
  have HX2 := Aside0.mk (blk_below (blk_new w (.cells #[.int .i64 k, .string s, .int .i64 id] 115)) hb2)
  have HK2 := Aside0.mk ((Kp.of_below (below_alloc (Below.refl w.heap.size w) (.cells #[.int .i64 k, .string s, .int .i64 id] 115))).trans hb2)
  clear hb2
  go_wp2_with fail
  refine (new_bad w2 n ma _ HN.out).mono ?_
  rintro e w3 ⟨rfl, rfl⟩
  have HX3 := HX2
  have HK3 := HK2
  have x0 : ∀ m : BW w2, m.w'.cell? ⟨w.heap.size, 0, none⟩ = some (.int .i64 k) := fun m => m.h.cell ((blk_cell HX3.out 0).trans rfl)
  have x1 : ∀ m : BW w2, m.w'.cell? ⟨w.heap.size, 1, none⟩ = some (.string s) := fun m => m.h.cell ((blk_cell HX3.out 1).trans rfl)
  have x2 : ∀ m : BW w2, m.w'.cell? ⟨w.heap.size, 2, none⟩ = some (.int .i64 id) := fun m => m.h.cell ((blk_cell HX3.out 2).trans rfl)
  go_wp2_with fail
  refine region_quietB (by kernel_rfl) (by kernel_rfl) ?_
  repeat (go_big_quiet_step (first | (go_at_call 64; exact kp_awake _) | (go_at_call 69; exact kp_tick _) | (go_at_call 67; exact kp_ended _) | (go_at_call 70; exact kp_at _) | (go_at_call 66; exact kp_heard _) | (go_at_call 71; exact kp_session _) | (go_at_call 72; exact kp_check _ _ _ _ _ HB.out)))
  refine wpQuiet_nil ?_
  rintro _ ⟨nq, rfl⟩
  go_wp2_with fail
  go_ret
  exact ⟨rfl, HK3.out.trans nq.h⟩
set_option maxHeartbeats 8000000 in
set_option maxRecDepth 100000 in
theorem nil_12 (w : World) (n ma k id : Int) (s : ByteArray) (a0 : n ≥ 0) (a1 : ¬ n < 8) (c0 : k ≥ 1) (c1 : k ≤ 4) (c2 : ¬ id ≥ 0) :
    Calls Try.prog 13 #[.int .i64 n, .int .i64 ma, .agg #[.int .i64 k, .string s, .int .i64 id]] w fun e w' => e = .returned (.bool true) ∧ Kp w w' := by
  have HB : Aside0 ((decide (k ≥ 1) && decide (k ≤ 4) && decide (id ≥ 0)) = false) := Aside0.mk (by rw [decide_eq_true c0, decide_eq_true c1, decide_eq_false c2]; simp)
  have HN := Aside0.mk (show ¬ ((0 ≤ n ∧ n < 8) ∧ (1 ≤ ma ∧ ma ≤ 7)) by omega)
  have d0 : decide (n ≥ 0) = true := decide_eq_true a0
  have d1 : decide (n < 8) = false := decide_eq_false a1
  have e0 : decide (k ≥ 1) = true := decide_eq_true c0
  have e1 : decide (k ≤ 4) = true := decide_eq_true c1
  have e2 : decide (id ≥ 0) = false := decide_eq_false c2
  clear a0 a1 c0 c1 c2
  go_enter Try.func13, Try.ntmps13
  go_wp2_with fail
  refine (handle_nil _ _ rfl).mono ?_
  rintro e w2 ⟨rfl, hb2⟩
  have HX2 := Aside0.mk (blk_below (blk_new w (.cells #[.int .i64 k, .string s, .int .i64 id] 115)) hb2)
  have HK2 := Aside0.mk ((Kp.of_below (below_alloc (Below.refl w.heap.size w) (.cells #[.int .i64 k, .string s, .int .i64 id] 115))).trans hb2)
  clear hb2
  go_wp2_with fail
  refine (new_bad w2 n ma _ HN.out).mono ?_
  rintro e w3 ⟨rfl, rfl⟩
  have HX3 := HX2
  have HK3 := HK2
  have x0 : ∀ m : BW w2, m.w'.cell? ⟨w.heap.size, 0, none⟩ = some (.int .i64 k) := fun m => m.h.cell ((blk_cell HX3.out 0).trans rfl)
  have x1 : ∀ m : BW w2, m.w'.cell? ⟨w.heap.size, 1, none⟩ = some (.string s) := fun m => m.h.cell ((blk_cell HX3.out 1).trans rfl)
  have x2 : ∀ m : BW w2, m.w'.cell? ⟨w.heap.size, 2, none⟩ = some (.int .i64 id) := fun m => m.h.cell ((blk_cell HX3.out 2).trans rfl)
  go_wp2_with fail
  refine region_quietB (by kernel_rfl) (by kernel_rfl) ?_
  repeat (go_big_quiet_step (first | (go_at_call 64; exact kp_awake _) | (go_at_call 69; exact kp_tick _) | (go_at_call 67; exact kp_ended _) | (go_at_call 70; exact kp_at _) | (go_at_call 66; exact kp_heard _) | (go_at_call 71; exact kp_session _) | (go_at_call 72; exact kp_check _ _ _ _ _ HB.out)))
  refine wpQuiet_nil ?_
  rintro _ ⟨nq, rfl⟩
  go_wp2_with fail
  go_ret
  exact ⟨rfl, HK3.out.trans nq.h⟩
set_option maxHeartbeats 8000000 in
set_option maxRecDepth 100000 in
theorem nil_13 (w : World) (n ma k id : Int) (s : ByteArray) (a0 : n ≥ 0) (a1 : ¬ n < 8) (c0 : k ≥ 1) (c1 : k ≤ 4) (c2 : id ≥ 0) :
    Calls Try.prog 13 #[.int .i64 n, .int .i64 ma, .agg #[.int .i64 k, .string s, .int .i64 id]] w fun e w' => e = .returned (.bool true) ∧ Kp w w' := by
  have HB : Aside0 ((decide (k ≥ 1) && decide (k ≤ 4) && decide (id ≥ 0)) = true) := Aside0.mk (by rw [decide_eq_true c0, decide_eq_true c1, decide_eq_true c2]; rfl)
  have HN := Aside0.mk (show ¬ ((0 ≤ n ∧ n < 8) ∧ (1 ≤ ma ∧ ma ≤ 7)) by omega)
  have d0 : decide (n ≥ 0) = true := decide_eq_true a0
  have d1 : decide (n < 8) = false := decide_eq_false a1
  have e0 : decide (k ≥ 1) = true := decide_eq_true c0
  have e1 : decide (k ≤ 4) = true := decide_eq_true c1
  have e2 : decide (id ≥ 0) = true := decide_eq_true c2
  clear a0 a1 c0 c1 c2
  go_enter Try.func13, Try.ntmps13
  go_wp2_with fail
  refine (handle_nil _ _ rfl).mono ?_
  rintro e w2 ⟨rfl, hb2⟩
  have HX2 := Aside0.mk (blk_below (blk_new w (.cells #[.int .i64 k, .string s, .int .i64 id] 115)) hb2)
  have HK2 := Aside0.mk ((Kp.of_below (below_alloc (Below.refl w.heap.size w) (.cells #[.int .i64 k, .string s, .int .i64 id] 115))).trans hb2)
  clear hb2
  go_wp2_with fail
  refine (new_bad w2 n ma _ HN.out).mono ?_
  rintro e w3 ⟨rfl, rfl⟩
  have HX3 := HX2
  have HK3 := HK2
  have x0 : ∀ m : BW w2, m.w'.cell? ⟨w.heap.size, 0, none⟩ = some (.int .i64 k) := fun m => m.h.cell ((blk_cell HX3.out 0).trans rfl)
  have x1 : ∀ m : BW w2, m.w'.cell? ⟨w.heap.size, 1, none⟩ = some (.string s) := fun m => m.h.cell ((blk_cell HX3.out 1).trans rfl)
  have x2 : ∀ m : BW w2, m.w'.cell? ⟨w.heap.size, 2, none⟩ = some (.int .i64 id) := fun m => m.h.cell ((blk_cell HX3.out 2).trans rfl)
  go_wp2_with fail
  refine region_quietB (by kernel_rfl) (by kernel_rfl) ?_
  repeat (go_big_quiet_step (first | (go_at_call 64; exact kp_awake _) | (go_at_call 69; exact kp_tick _) | (go_at_call 67; exact kp_ended _) | (go_at_call 70; exact kp_at _) | (go_at_call 66; exact kp_heard _) | (go_at_call 71; exact kp_session _) | (go_at_call 72; exact kp_check _ _ _ _ _ HB.out)))
  refine wpQuiet_nil ?_
  rintro _ ⟨nq, rfl⟩
  go_wp2_with fail
  go_ret
  exact ⟨rfl, HK3.out.trans nq.h⟩
set_option maxHeartbeats 8000000 in
set_option maxRecDepth 100000 in
theorem nil_20 (w : World) (n ma k id : Int) (s : ByteArray) (a0 : n ≥ 0) (a1 : n < 8) (a2 : ¬ ma ≥ 1) (c0 : ¬ k ≥ 1) :
    Calls Try.prog 13 #[.int .i64 n, .int .i64 ma, .agg #[.int .i64 k, .string s, .int .i64 id]] w fun e w' => e = .returned (.bool true) ∧ Kp w w' := by
  have HB : Aside0 ((decide (k ≥ 1) && decide (k ≤ 4) && decide (id ≥ 0)) = false) := Aside0.mk (by rw [decide_eq_false c0]; simp)
  have HN := Aside0.mk (show ¬ ((0 ≤ n ∧ n < 8) ∧ (1 ≤ ma ∧ ma ≤ 7)) by omega)
  have d0 : decide (n ≥ 0) = true := decide_eq_true a0
  have d1 : decide (n < 8) = true := decide_eq_true a1
  have d2 : decide (ma ≥ 1) = false := decide_eq_false a2
  have e0 : decide (k ≥ 1) = false := decide_eq_false c0
  clear a0 a1 a2 c0
  go_enter Try.func13, Try.ntmps13
  go_wp2_with fail
  refine (handle_nil _ _ rfl).mono ?_
  rintro e w2 ⟨rfl, hb2⟩
  have HX2 := Aside0.mk (blk_below (blk_new w (.cells #[.int .i64 k, .string s, .int .i64 id] 115)) hb2)
  have HK2 := Aside0.mk ((Kp.of_below (below_alloc (Below.refl w.heap.size w) (.cells #[.int .i64 k, .string s, .int .i64 id] 115))).trans hb2)
  clear hb2
  go_wp2_with fail
  refine (new_bad w2 n ma _ HN.out).mono ?_
  rintro e w3 ⟨rfl, rfl⟩
  have HX3 := HX2
  have HK3 := HK2
  have x0 : ∀ m : BW w2, m.w'.cell? ⟨w.heap.size, 0, none⟩ = some (.int .i64 k) := fun m => m.h.cell ((blk_cell HX3.out 0).trans rfl)
  have x1 : ∀ m : BW w2, m.w'.cell? ⟨w.heap.size, 1, none⟩ = some (.string s) := fun m => m.h.cell ((blk_cell HX3.out 1).trans rfl)
  have x2 : ∀ m : BW w2, m.w'.cell? ⟨w.heap.size, 2, none⟩ = some (.int .i64 id) := fun m => m.h.cell ((blk_cell HX3.out 2).trans rfl)
  go_wp2_with fail
  refine region_quietB (by kernel_rfl) (by kernel_rfl) ?_
  repeat (go_big_quiet_step (first | (go_at_call 64; exact kp_awake _) | (go_at_call 69; exact kp_tick _) | (go_at_call 67; exact kp_ended _) | (go_at_call 70; exact kp_at _) | (go_at_call 66; exact kp_heard _) | (go_at_call 71; exact kp_session _) | (go_at_call 72; exact kp_check _ _ _ _ _ HB.out)))
  refine wpQuiet_nil ?_
  rintro _ ⟨nq, rfl⟩
  go_wp2_with fail
  go_ret
  exact ⟨rfl, HK3.out.trans nq.h⟩
set_option maxHeartbeats 8000000 in
set_option maxRecDepth 100000 in
theorem nil_21 (w : World) (n ma k id : Int) (s : ByteArray) (a0 : n ≥ 0) (a1 : n < 8) (a2 : ¬ ma ≥ 1) (c0 : k ≥ 1) (c1 : ¬ k ≤ 4) :
    Calls Try.prog 13 #[.int .i64 n, .int .i64 ma, .agg #[.int .i64 k, .string s, .int .i64 id]] w fun e w' => e = .returned (.bool true) ∧ Kp w w' := by
  have HB : Aside0 ((decide (k ≥ 1) && decide (k ≤ 4) && decide (id ≥ 0)) = false) := Aside0.mk (by rw [decide_eq_true c0, decide_eq_false c1]; simp)
  have HN := Aside0.mk (show ¬ ((0 ≤ n ∧ n < 8) ∧ (1 ≤ ma ∧ ma ≤ 7)) by omega)
  have d0 : decide (n ≥ 0) = true := decide_eq_true a0
  have d1 : decide (n < 8) = true := decide_eq_true a1
  have d2 : decide (ma ≥ 1) = false := decide_eq_false a2
  have e0 : decide (k ≥ 1) = true := decide_eq_true c0
  have e1 : decide (k ≤ 4) = false := decide_eq_false c1
  clear a0 a1 a2 c0 c1
  go_enter Try.func13, Try.ntmps13
  go_wp2_with fail
  refine (handle_nil _ _ rfl).mono ?_
  rintro e w2 ⟨rfl, hb2⟩
  have HX2 := Aside0.mk (blk_below (blk_new w (.cells #[.int .i64 k, .string s, .int .i64 id] 115)) hb2)
  have HK2 := Aside0.mk ((Kp.of_below (below_alloc (Below.refl w.heap.size w) (.cells #[.int .i64 k, .string s, .int .i64 id] 115))).trans hb2)
  clear hb2
  go_wp2_with fail
  refine (new_bad w2 n ma _ HN.out).mono ?_
  rintro e w3 ⟨rfl, rfl⟩
  have HX3 := HX2
  have HK3 := HK2
  have x0 : ∀ m : BW w2, m.w'.cell? ⟨w.heap.size, 0, none⟩ = some (.int .i64 k) := fun m => m.h.cell ((blk_cell HX3.out 0).trans rfl)
  have x1 : ∀ m : BW w2, m.w'.cell? ⟨w.heap.size, 1, none⟩ = some (.string s) := fun m => m.h.cell ((blk_cell HX3.out 1).trans rfl)
  have x2 : ∀ m : BW w2, m.w'.cell? ⟨w.heap.size, 2, none⟩ = some (.int .i64 id) := fun m => m.h.cell ((blk_cell HX3.out 2).trans rfl)
  go_wp2_with fail
  refine region_quietB (by kernel_rfl) (by kernel_rfl) ?_
  repeat (go_big_quiet_step (first | (go_at_call 64; exact kp_awake _) | (go_at_call 69; exact kp_tick _) | (go_at_call 67; exact kp_ended _) | (go_at_call 70; exact kp_at _) | (go_at_call 66; exact kp_heard _) | (go_at_call 71; exact kp_session _) | (go_at_call 72; exact kp_check _ _ _ _ _ HB.out)))
  refine wpQuiet_nil ?_
  rintro _ ⟨nq, rfl⟩
  go_wp2_with fail
  go_ret
  exact ⟨rfl, HK3.out.trans nq.h⟩
set_option maxHeartbeats 8000000 in
set_option maxRecDepth 100000 in
theorem nil_22 (w : World) (n ma k id : Int) (s : ByteArray) (a0 : n ≥ 0) (a1 : n < 8) (a2 : ¬ ma ≥ 1) (c0 : k ≥ 1) (c1 : k ≤ 4) (c2 : ¬ id ≥ 0) :
    Calls Try.prog 13 #[.int .i64 n, .int .i64 ma, .agg #[.int .i64 k, .string s, .int .i64 id]] w fun e w' => e = .returned (.bool true) ∧ Kp w w' := by
  have HB : Aside0 ((decide (k ≥ 1) && decide (k ≤ 4) && decide (id ≥ 0)) = false) := Aside0.mk (by rw [decide_eq_true c0, decide_eq_true c1, decide_eq_false c2]; simp)
  have HN := Aside0.mk (show ¬ ((0 ≤ n ∧ n < 8) ∧ (1 ≤ ma ∧ ma ≤ 7)) by omega)
  have d0 : decide (n ≥ 0) = true := decide_eq_true a0
  have d1 : decide (n < 8) = true := decide_eq_true a1
  have d2 : decide (ma ≥ 1) = false := decide_eq_false a2
  have e0 : decide (k ≥ 1) = true := decide_eq_true c0
  have e1 : decide (k ≤ 4) = true := decide_eq_true c1
  have e2 : decide (id ≥ 0) = false := decide_eq_false c2
  clear a0 a1 a2 c0 c1 c2
  go_enter Try.func13, Try.ntmps13
  go_wp2_with fail
  refine (handle_nil _ _ rfl).mono ?_
  rintro e w2 ⟨rfl, hb2⟩
  have HX2 := Aside0.mk (blk_below (blk_new w (.cells #[.int .i64 k, .string s, .int .i64 id] 115)) hb2)
  have HK2 := Aside0.mk ((Kp.of_below (below_alloc (Below.refl w.heap.size w) (.cells #[.int .i64 k, .string s, .int .i64 id] 115))).trans hb2)
  clear hb2
  go_wp2_with fail
  refine (new_bad w2 n ma _ HN.out).mono ?_
  rintro e w3 ⟨rfl, rfl⟩
  have HX3 := HX2
  have HK3 := HK2
  have x0 : ∀ m : BW w2, m.w'.cell? ⟨w.heap.size, 0, none⟩ = some (.int .i64 k) := fun m => m.h.cell ((blk_cell HX3.out 0).trans rfl)
  have x1 : ∀ m : BW w2, m.w'.cell? ⟨w.heap.size, 1, none⟩ = some (.string s) := fun m => m.h.cell ((blk_cell HX3.out 1).trans rfl)
  have x2 : ∀ m : BW w2, m.w'.cell? ⟨w.heap.size, 2, none⟩ = some (.int .i64 id) := fun m => m.h.cell ((blk_cell HX3.out 2).trans rfl)
  go_wp2_with fail
  refine region_quietB (by kernel_rfl) (by kernel_rfl) ?_
  repeat (go_big_quiet_step (first | (go_at_call 64; exact kp_awake _) | (go_at_call 69; exact kp_tick _) | (go_at_call 67; exact kp_ended _) | (go_at_call 70; exact kp_at _) | (go_at_call 66; exact kp_heard _) | (go_at_call 71; exact kp_session _) | (go_at_call 72; exact kp_check _ _ _ _ _ HB.out)))
  refine wpQuiet_nil ?_
  rintro _ ⟨nq, rfl⟩
  go_wp2_with fail
  go_ret
  exact ⟨rfl, HK3.out.trans nq.h⟩
set_option maxHeartbeats 8000000 in
set_option maxRecDepth 100000 in
theorem nil_23 (w : World) (n ma k id : Int) (s : ByteArray) (a0 : n ≥ 0) (a1 : n < 8) (a2 : ¬ ma ≥ 1) (c0 : k ≥ 1) (c1 : k ≤ 4) (c2 : id ≥ 0) :
    Calls Try.prog 13 #[.int .i64 n, .int .i64 ma, .agg #[.int .i64 k, .string s, .int .i64 id]] w fun e w' => e = .returned (.bool true) ∧ Kp w w' := by
  have HB : Aside0 ((decide (k ≥ 1) && decide (k ≤ 4) && decide (id ≥ 0)) = true) := Aside0.mk (by rw [decide_eq_true c0, decide_eq_true c1, decide_eq_true c2]; rfl)
  have HN := Aside0.mk (show ¬ ((0 ≤ n ∧ n < 8) ∧ (1 ≤ ma ∧ ma ≤ 7)) by omega)
  have d0 : decide (n ≥ 0) = true := decide_eq_true a0
  have d1 : decide (n < 8) = true := decide_eq_true a1
  have d2 : decide (ma ≥ 1) = false := decide_eq_false a2
  have e0 : decide (k ≥ 1) = true := decide_eq_true c0
  have e1 : decide (k ≤ 4) = true := decide_eq_true c1
  have e2 : decide (id ≥ 0) = true := decide_eq_true c2
  clear a0 a1 a2 c0 c1 c2
  go_enter Try.func13, Try.ntmps13
  go_wp2_with fail
  refine (handle_nil _ _ rfl).mono ?_
  rintro e w2 ⟨rfl, hb2⟩
  have HX2 := Aside0.mk (blk_below (blk_new w (.cells #[.int .i64 k, .string s, .int .i64 id] 115)) hb2)
  have HK2 := Aside0.mk ((Kp.of_below (below_alloc (Below.refl w.heap.size w) (.cells #[.int .i64 k, .string s, .int .i64 id] 115))).trans hb2)
  clear hb2
  go_wp2_with fail
  refine (new_bad w2 n ma _ HN.out).mono ?_
  rintro e w3 ⟨rfl, rfl⟩
  have HX3 := HX2
  have HK3 := HK2
  have x0 : ∀ m : BW w2, m.w'.cell? ⟨w.heap.size, 0, none⟩ = some (.int .i64 k) := fun m => m.h.cell ((blk_cell HX3.out 0).trans rfl)
  have x1 : ∀ m : BW w2, m.w'.cell? ⟨w.heap.size, 1, none⟩ = some (.string s) := fun m => m.h.cell ((blk_cell HX3.out 1).trans rfl)
  have x2 : ∀ m : BW w2, m.w'.cell? ⟨w.heap.size, 2, none⟩ = some (.int .i64 id) := fun m => m.h.cell ((blk_cell HX3.out 2).trans rfl)
  go_wp2_with fail
  refine region_quietB (by kernel_rfl) (by kernel_rfl) ?_
  repeat (go_big_quiet_step (first | (go_at_call 64; exact kp_awake _) | (go_at_call 69; exact kp_tick _) | (go_at_call 67; exact kp_ended _) | (go_at_call 70; exact kp_at _) | (go_at_call 66; exact kp_heard _) | (go_at_call 71; exact kp_session _) | (go_at_call 72; exact kp_check _ _ _ _ _ HB.out)))
  refine wpQuiet_nil ?_
  rintro _ ⟨nq, rfl⟩
  go_wp2_with fail
  go_ret
  exact ⟨rfl, HK3.out.trans nq.h⟩
set_option maxHeartbeats 8000000 in
set_option maxRecDepth 100000 in
theorem nil_30 (w : World) (n ma k id : Int) (s : ByteArray) (a0 : n ≥ 0) (a1 : n < 8) (a2 : ma ≥ 1) (a3 : ¬ ma ≤ 7) (c0 : ¬ k ≥ 1) :
    Calls Try.prog 13 #[.int .i64 n, .int .i64 ma, .agg #[.int .i64 k, .string s, .int .i64 id]] w fun e w' => e = .returned (.bool true) ∧ Kp w w' := by
  have HB : Aside0 ((decide (k ≥ 1) && decide (k ≤ 4) && decide (id ≥ 0)) = false) := Aside0.mk (by rw [decide_eq_false c0]; simp)
  have HN := Aside0.mk (show ¬ ((0 ≤ n ∧ n < 8) ∧ (1 ≤ ma ∧ ma ≤ 7)) by omega)
  have d0 : decide (n ≥ 0) = true := decide_eq_true a0
  have d1 : decide (n < 8) = true := decide_eq_true a1
  have d2 : decide (ma ≥ 1) = true := decide_eq_true a2
  have d3 : decide (ma ≤ 7) = false := decide_eq_false a3
  have e0 : decide (k ≥ 1) = false := decide_eq_false c0
  clear a0 a1 a2 a3 c0
  go_enter Try.func13, Try.ntmps13
  go_wp2_with fail
  refine (handle_nil _ _ rfl).mono ?_
  rintro e w2 ⟨rfl, hb2⟩
  have HX2 := Aside0.mk (blk_below (blk_new w (.cells #[.int .i64 k, .string s, .int .i64 id] 115)) hb2)
  have HK2 := Aside0.mk ((Kp.of_below (below_alloc (Below.refl w.heap.size w) (.cells #[.int .i64 k, .string s, .int .i64 id] 115))).trans hb2)
  clear hb2
  go_wp2_with fail
  refine (new_bad w2 n ma _ HN.out).mono ?_
  rintro e w3 ⟨rfl, rfl⟩
  have HX3 := HX2
  have HK3 := HK2
  have x0 : ∀ m : BW w2, m.w'.cell? ⟨w.heap.size, 0, none⟩ = some (.int .i64 k) := fun m => m.h.cell ((blk_cell HX3.out 0).trans rfl)
  have x1 : ∀ m : BW w2, m.w'.cell? ⟨w.heap.size, 1, none⟩ = some (.string s) := fun m => m.h.cell ((blk_cell HX3.out 1).trans rfl)
  have x2 : ∀ m : BW w2, m.w'.cell? ⟨w.heap.size, 2, none⟩ = some (.int .i64 id) := fun m => m.h.cell ((blk_cell HX3.out 2).trans rfl)
  go_wp2_with fail
  refine region_quietB (by kernel_rfl) (by kernel_rfl) ?_
  repeat (go_big_quiet_step (first | (go_at_call 64; exact kp_awake _) | (go_at_call 69; exact kp_tick _) | (go_at_call 67; exact kp_ended _) | (go_at_call 70; exact kp_at _) | (go_at_call 66; exact kp_heard _) | (go_at_call 71; exact kp_session _) | (go_at_call 72; exact kp_check _ _ _ _ _ HB.out)))
  refine wpQuiet_nil ?_
  rintro _ ⟨nq, rfl⟩
  go_wp2_with fail
  go_ret
  exact ⟨rfl, HK3.out.trans nq.h⟩
set_option maxHeartbeats 8000000 in
set_option maxRecDepth 100000 in
theorem nil_31 (w : World) (n ma k id : Int) (s : ByteArray) (a0 : n ≥ 0) (a1 : n < 8) (a2 : ma ≥ 1) (a3 : ¬ ma ≤ 7) (c0 : k ≥ 1) (c1 : ¬ k ≤ 4) :
    Calls Try.prog 13 #[.int .i64 n, .int .i64 ma, .agg #[.int .i64 k, .string s, .int .i64 id]] w fun e w' => e = .returned (.bool true) ∧ Kp w w' := by
  have HB : Aside0 ((decide (k ≥ 1) && decide (k ≤ 4) && decide (id ≥ 0)) = false) := Aside0.mk (by rw [decide_eq_true c0, decide_eq_false c1]; simp)
  have HN := Aside0.mk (show ¬ ((0 ≤ n ∧ n < 8) ∧ (1 ≤ ma ∧ ma ≤ 7)) by omega)
  have d0 : decide (n ≥ 0) = true := decide_eq_true a0
  have d1 : decide (n < 8) = true := decide_eq_true a1
  have d2 : decide (ma ≥ 1) = true := decide_eq_true a2
  have d3 : decide (ma ≤ 7) = false := decide_eq_false a3
  have e0 : decide (k ≥ 1) = true := decide_eq_true c0
  have e1 : decide (k ≤ 4) = false := decide_eq_false c1
  clear a0 a1 a2 a3 c0 c1
  go_enter Try.func13, Try.ntmps13
  go_wp2_with fail
  refine (handle_nil _ _ rfl).mono ?_
  rintro e w2 ⟨rfl, hb2⟩
  have HX2 := Aside0.mk (blk_below (blk_new w (.cells #[.int .i64 k, .string s, .int .i64 id] 115)) hb2)
  have HK2 := Aside0.mk ((Kp.of_below (below_alloc (Below.refl w.heap.size w) (.cells #[.int .i64 k, .string s, .int .i64 id] 115))).trans hb2)
  clear hb2
  go_wp2_with fail
  refine (new_bad w2 n ma _ HN.out).mono ?_
  rintro e w3 ⟨rfl, rfl⟩
  have HX3 := HX2
  have HK3 := HK2
  have x0 : ∀ m : BW w2, m.w'.cell? ⟨w.heap.size, 0, none⟩ = some (.int .i64 k) := fun m => m.h.cell ((blk_cell HX3.out 0).trans rfl)
  have x1 : ∀ m : BW w2, m.w'.cell? ⟨w.heap.size, 1, none⟩ = some (.string s) := fun m => m.h.cell ((blk_cell HX3.out 1).trans rfl)
  have x2 : ∀ m : BW w2, m.w'.cell? ⟨w.heap.size, 2, none⟩ = some (.int .i64 id) := fun m => m.h.cell ((blk_cell HX3.out 2).trans rfl)
  go_wp2_with fail
  refine region_quietB (by kernel_rfl) (by kernel_rfl) ?_
  repeat (go_big_quiet_step (first | (go_at_call 64; exact kp_awake _) | (go_at_call 69; exact kp_tick _) | (go_at_call 67; exact kp_ended _) | (go_at_call 70; exact kp_at _) | (go_at_call 66; exact kp_heard _) | (go_at_call 71; exact kp_session _) | (go_at_call 72; exact kp_check _ _ _ _ _ HB.out)))
  refine wpQuiet_nil ?_
  rintro _ ⟨nq, rfl⟩
  go_wp2_with fail
  go_ret
  exact ⟨rfl, HK3.out.trans nq.h⟩
set_option maxHeartbeats 8000000 in
set_option maxRecDepth 100000 in
theorem nil_32 (w : World) (n ma k id : Int) (s : ByteArray) (a0 : n ≥ 0) (a1 : n < 8) (a2 : ma ≥ 1) (a3 : ¬ ma ≤ 7) (c0 : k ≥ 1) (c1 : k ≤ 4) (c2 : ¬ id ≥ 0) :
    Calls Try.prog 13 #[.int .i64 n, .int .i64 ma, .agg #[.int .i64 k, .string s, .int .i64 id]] w fun e w' => e = .returned (.bool true) ∧ Kp w w' := by
  have HB : Aside0 ((decide (k ≥ 1) && decide (k ≤ 4) && decide (id ≥ 0)) = false) := Aside0.mk (by rw [decide_eq_true c0, decide_eq_true c1, decide_eq_false c2]; simp)
  have HN := Aside0.mk (show ¬ ((0 ≤ n ∧ n < 8) ∧ (1 ≤ ma ∧ ma ≤ 7)) by omega)
  have d0 : decide (n ≥ 0) = true := decide_eq_true a0
  have d1 : decide (n < 8) = true := decide_eq_true a1
  have d2 : decide (ma ≥ 1) = true := decide_eq_true a2
  have d3 : decide (ma ≤ 7) = false := decide_eq_false a3
  have e0 : decide (k ≥ 1) = true := decide_eq_true c0
  have e1 : decide (k ≤ 4) = true := decide_eq_true c1
  have e2 : decide (id ≥ 0) = false := decide_eq_false c2
  clear a0 a1 a2 a3 c0 c1 c2
  go_enter Try.func13, Try.ntmps13
  go_wp2_with fail
  refine (handle_nil _ _ rfl).mono ?_
  rintro e w2 ⟨rfl, hb2⟩
  have HX2 := Aside0.mk (blk_below (blk_new w (.cells #[.int .i64 k, .string s, .int .i64 id] 115)) hb2)
  have HK2 := Aside0.mk ((Kp.of_below (below_alloc (Below.refl w.heap.size w) (.cells #[.int .i64 k, .string s, .int .i64 id] 115))).trans hb2)
  clear hb2
  go_wp2_with fail
  refine (new_bad w2 n ma _ HN.out).mono ?_
  rintro e w3 ⟨rfl, rfl⟩
  have HX3 := HX2
  have HK3 := HK2
  have x0 : ∀ m : BW w2, m.w'.cell? ⟨w.heap.size, 0, none⟩ = some (.int .i64 k) := fun m => m.h.cell ((blk_cell HX3.out 0).trans rfl)
  have x1 : ∀ m : BW w2, m.w'.cell? ⟨w.heap.size, 1, none⟩ = some (.string s) := fun m => m.h.cell ((blk_cell HX3.out 1).trans rfl)
  have x2 : ∀ m : BW w2, m.w'.cell? ⟨w.heap.size, 2, none⟩ = some (.int .i64 id) := fun m => m.h.cell ((blk_cell HX3.out 2).trans rfl)
  go_wp2_with fail
  refine region_quietB (by kernel_rfl) (by kernel_rfl) ?_
  repeat (go_big_quiet_step (first | (go_at_call 64; exact kp_awake _) | (go_at_call 69; exact kp_tick _) | (go_at_call 67; exact kp_ended _) | (go_at_call 70; exact kp_at _) | (go_at_call 66; exact kp_heard _) | (go_at_call 71; exact kp_session _) | (go_at_call 72; exact kp_check _ _ _ _ _ HB.out)))
  refine wpQuiet_nil ?_
  rintro _ ⟨nq, rfl⟩
  go_wp2_with fail
  go_ret
  exact ⟨rfl, HK3.out.trans nq.h⟩
set_option maxHeartbeats 8000000 in
set_option maxRecDepth 100000 in
theorem nil_33 (w : World) (n ma k id : Int) (s : ByteArray) (a0 : n ≥ 0) (a1 : n < 8) (a2 : ma ≥ 1) (a3 : ¬ ma ≤ 7) (c0 : k ≥ 1) (c1 : k ≤ 4) (c2 : id ≥ 0) :
    Calls Try.prog 13 #[.int .i64 n, .int .i64 ma, .agg #[.int .i64 k, .string s, .int .i64 id]] w fun e w' => e = .returned (.bool true) ∧ Kp w w' := by
  have HB : Aside0 ((decide (k ≥ 1) && decide (k ≤ 4) && decide (id ≥ 0)) = true) := Aside0.mk (by rw [decide_eq_true c0, decide_eq_true c1, decide_eq_true c2]; rfl)
  have HN := Aside0.mk (show ¬ ((0 ≤ n ∧ n < 8) ∧ (1 ≤ ma ∧ ma ≤ 7)) by omega)
  have d0 : decide (n ≥ 0) = true := decide_eq_true a0
  have d1 : decide (n < 8) = true := decide_eq_true a1
  have d2 : decide (ma ≥ 1) = true := decide_eq_true a2
  have d3 : decide (ma ≤ 7) = false := decide_eq_false a3
  have e0 : decide (k ≥ 1) = true := decide_eq_true c0
  have e1 : decide (k ≤ 4) = true := decide_eq_true c1
  have e2 : decide (id ≥ 0) = true := decide_eq_true c2
  clear a0 a1 a2 a3 c0 c1 c2
  go_enter Try.func13, Try.ntmps13
  go_wp2_with fail
  refine (handle_nil _ _ rfl).mono ?_
  rintro e w2 ⟨rfl, hb2⟩
  have HX2 := Aside0.mk (blk_below (blk_new w (.cells #[.int .i64 k, .string s, .int .i64 id] 115)) hb2)
  have HK2 := Aside0.mk ((Kp.of_below (below_alloc (Below.refl w.heap.size w) (.cells #[.int .i64 k, .string s, .int .i64 id] 115))).trans hb2)
  clear hb2
  go_wp2_with fail
  refine (new_bad w2 n ma _ HN.out).mono ?_
  rintro e w3 ⟨rfl, rfl⟩
  have HX3 := HX2
  have HK3 := HK2
  have x0 : ∀ m : BW w2, m.w'.cell? ⟨w.heap.size, 0, none⟩ = some (.int .i64 k) := fun m => m.h.cell ((blk_cell HX3.out 0).trans rfl)
  have x1 : ∀ m : BW w2, m.w'.cell? ⟨w.heap.size, 1, none⟩ = some (.string s) := fun m => m.h.cell ((blk_cell HX3.out 1).trans rfl)
  have x2 : ∀ m : BW w2, m.w'.cell? ⟨w.heap.size, 2, none⟩ = some (.int .i64 id) := fun m => m.h.cell ((blk_cell HX3.out 2).trans rfl)
  go_wp2_with fail
  refine region_quietB (by kernel_rfl) (by kernel_rfl) ?_
  repeat (go_big_quiet_step (first | (go_at_call 64; exact kp_awake _) | (go_at_call 69; exact kp_tick _) | (go_at_call 67; exact kp_ended _) | (go_at_call 70; exact kp_at _) | (go_at_call 66; exact kp_heard _) | (go_at_call 71; exact kp_session _) | (go_at_call 72; exact kp_check _ _ _ _ _ HB.out)))
  refine wpQuiet_nil ?_
  rintro _ ⟨nq, rfl⟩
  go_wp2_with fail
  go_ret
  exact ⟨rfl, HK3.out.trans nq.h⟩
set_option maxHeartbeats 8000000 in
set_option maxRecDepth 100000 in
theorem nil_40 (w : World) (n ma k id : Int) (s : ByteArray) (a0 : n ≥ 0) (a1 : n < 8) (a2 : ma ≥ 1) (a3 : ma ≤ 7) (c0 : ¬ k ≥ 1) :
    Calls Try.prog 13 #[.int .i64 n, .int .i64 ma, .agg #[.int .i64 k, .string s, .int .i64 id]] w fun e w' => e = .returned (.bool true) ∧ Kp w w' := by
  have HB : Aside0 ((decide (k ≥ 1) && decide (k ≤ 4) && decide (id ≥ 0)) = false) := Aside0.mk (by rw [decide_eq_false c0]; simp)
  have H1 := Aside0.mk (show 0 ≤ n ∧ n < 8 from ⟨a0, a1⟩)
  have H2 := Aside0.mk (show 1 ≤ ma ∧ ma ≤ 7 from ⟨a2, a3⟩)
  have d0 : decide (n ≥ 0) = true := decide_eq_true a0
  have d1 : decide (n < 8) = true := decide_eq_true a1
  have d2 : decide (ma ≥ 1) = true := decide_eq_true a2
  have d3 : decide (ma ≤ 7) = true := decide_eq_true a3
  have e0 : decide (k ≥ 1) = false := decide_eq_false c0
  clear a0 a1 a2 a3 c0
  go_enter Try.func13, Try.ntmps13
  go_wp2_with fail
  refine (handle_nil _ _ rfl).mono ?_
  rintro e w2 ⟨rfl, hb2⟩
  have HX2 := Aside0.mk (blk_below (blk_new w (.cells #[.int .i64 k, .string s, .int .i64 id] 115)) hb2)
  have HK2 := Aside0.mk ((Kp.of_below (below_alloc (Below.refl w.heap.size w) (.cells #[.int .i64 k, .string s, .int .i64 id] 115))).trans hb2)
  clear hb2
  go_wp2_with fail
  refine (new_ok w2 n ma [] none 0 (c_none _ _ _) (by decide) H1.out H2.out).mono ?_
  rintro e w3 ⟨⟨g, v, rfl, -, -, -⟩, hb3⟩
  have HX3 := Aside0.mk (blk_below HX2.out hb3)
  have HK3 := Aside0.mk (HK2.out.trans hb3)
  clear hb3 HX2 HK2
  have x0 : ∀ m : BW w3, m.w'.cell? ⟨w.heap.size, 0, none⟩ = some (.int .i64 k) := fun m => m.h.cell ((blk_cell HX3.out 0).trans rfl)
  have x1 : ∀ m : BW w3, m.w'.cell? ⟨w.heap.size, 1, none⟩ = some (.string s) := fun m => m.h.cell ((blk_cell HX3.out 1).trans rfl)
  have x2 : ∀ m : BW w3, m.w'.cell? ⟨w.heap.size, 2, none⟩ = some (.int .i64 id) := fun m => m.h.cell ((blk_cell HX3.out 2).trans rfl)
  go_wp2_with fail
  refine region_quietB (by kernel_rfl) (by kernel_rfl) ?_
  repeat (go_big_quiet_step (first | (go_at_call 64; exact kp_awake _) | (go_at_call 69; exact kp_tick _) | (go_at_call 67; exact kp_ended _) | (go_at_call 70; exact kp_at _) | (go_at_call 66; exact kp_heard _) | (go_at_call 71; exact kp_session _) | (go_at_call 72; exact kp_check _ _ _ _ _ HB.out)))
  refine wpQuiet_nil ?_
  rintro _ ⟨nq, rfl⟩
  go_wp2_with fail
  go_ret
  exact ⟨rfl, HK3.out.trans nq.h⟩
set_option maxHeartbeats 8000000 in
set_option maxRecDepth 100000 in
theorem nil_41 (w : World) (n ma k id : Int) (s : ByteArray) (a0 : n ≥ 0) (a1 : n < 8) (a2 : ma ≥ 1) (a3 : ma ≤ 7) (c0 : k ≥ 1) (c1 : ¬ k ≤ 4) :
    Calls Try.prog 13 #[.int .i64 n, .int .i64 ma, .agg #[.int .i64 k, .string s, .int .i64 id]] w fun e w' => e = .returned (.bool true) ∧ Kp w w' := by
  have HB : Aside0 ((decide (k ≥ 1) && decide (k ≤ 4) && decide (id ≥ 0)) = false) := Aside0.mk (by rw [decide_eq_true c0, decide_eq_false c1]; simp)
  have H1 := Aside0.mk (show 0 ≤ n ∧ n < 8 from ⟨a0, a1⟩)
  have H2 := Aside0.mk (show 1 ≤ ma ∧ ma ≤ 7 from ⟨a2, a3⟩)
  have d0 : decide (n ≥ 0) = true := decide_eq_true a0
  have d1 : decide (n < 8) = true := decide_eq_true a1
  have d2 : decide (ma ≥ 1) = true := decide_eq_true a2
  have d3 : decide (ma ≤ 7) = true := decide_eq_true a3
  have e0 : decide (k ≥ 1) = true := decide_eq_true c0
  have e1 : decide (k ≤ 4) = false := decide_eq_false c1
  clear a0 a1 a2 a3 c0 c1
  go_enter Try.func13, Try.ntmps13
  go_wp2_with fail
  refine (handle_nil _ _ rfl).mono ?_
  rintro e w2 ⟨rfl, hb2⟩
  have HX2 := Aside0.mk (blk_below (blk_new w (.cells #[.int .i64 k, .string s, .int .i64 id] 115)) hb2)
  have HK2 := Aside0.mk ((Kp.of_below (below_alloc (Below.refl w.heap.size w) (.cells #[.int .i64 k, .string s, .int .i64 id] 115))).trans hb2)
  clear hb2
  go_wp2_with fail
  refine (new_ok w2 n ma [] none 0 (c_none _ _ _) (by decide) H1.out H2.out).mono ?_
  rintro e w3 ⟨⟨g, v, rfl, -, -, -⟩, hb3⟩
  have HX3 := Aside0.mk (blk_below HX2.out hb3)
  have HK3 := Aside0.mk (HK2.out.trans hb3)
  clear hb3 HX2 HK2
  have x0 : ∀ m : BW w3, m.w'.cell? ⟨w.heap.size, 0, none⟩ = some (.int .i64 k) := fun m => m.h.cell ((blk_cell HX3.out 0).trans rfl)
  have x1 : ∀ m : BW w3, m.w'.cell? ⟨w.heap.size, 1, none⟩ = some (.string s) := fun m => m.h.cell ((blk_cell HX3.out 1).trans rfl)
  have x2 : ∀ m : BW w3, m.w'.cell? ⟨w.heap.size, 2, none⟩ = some (.int .i64 id) := fun m => m.h.cell ((blk_cell HX3.out 2).trans rfl)
  go_wp2_with fail
  refine region_quietB (by kernel_rfl) (by kernel_rfl) ?_
  repeat (go_big_quiet_step (first | (go_at_call 64; exact kp_awake _) | (go_at_call 69; exact kp_tick _) | (go_at_call 67; exact kp_ended _) | (go_at_call 70; exact kp_at _) | (go_at_call 66; exact kp_heard _) | (go_at_call 71; exact kp_session _) | (go_at_call 72; exact kp_check _ _ _ _ _ HB.out)))
  refine wpQuiet_nil ?_
  rintro _ ⟨nq, rfl⟩
  go_wp2_with fail
  go_ret
  exact ⟨rfl, HK3.out.trans nq.h⟩
set_option maxHeartbeats 8000000 in
set_option maxRecDepth 100000 in
theorem nil_42 (w : World) (n ma k id : Int) (s : ByteArray) (a0 : n ≥ 0) (a1 : n < 8) (a2 : ma ≥ 1) (a3 : ma ≤ 7) (c0 : k ≥ 1) (c1 : k ≤ 4) (c2 : ¬ id ≥ 0) :
    Calls Try.prog 13 #[.int .i64 n, .int .i64 ma, .agg #[.int .i64 k, .string s, .int .i64 id]] w fun e w' => e = .returned (.bool true) ∧ Kp w w' := by
  have HB : Aside0 ((decide (k ≥ 1) && decide (k ≤ 4) && decide (id ≥ 0)) = false) := Aside0.mk (by rw [decide_eq_true c0, decide_eq_true c1, decide_eq_false c2]; simp)
  have H1 := Aside0.mk (show 0 ≤ n ∧ n < 8 from ⟨a0, a1⟩)
  have H2 := Aside0.mk (show 1 ≤ ma ∧ ma ≤ 7 from ⟨a2, a3⟩)
  have d0 : decide (n ≥ 0) = true := decide_eq_true a0
  have d1 : decide (n < 8) = true := decide_eq_true a1
  have d2 : decide (ma ≥ 1) = true := decide_eq_true a2
  have d3 : decide (ma ≤ 7) = true := decide_eq_true a3
  have e0 : decide (k ≥ 1) = true := decide_eq_true c0
  have e1 : decide (k ≤ 4) = true := decide_eq_true c1
  have e2 : decide (id ≥ 0) = false := decide_eq_false c2
  clear a0 a1 a2 a3 c0 c1 c2
  go_enter Try.func13, Try.ntmps13
  go_wp2_with fail
  refine (handle_nil _ _ rfl).mono ?_
  rintro e w2 ⟨rfl, hb2⟩
  have HX2 := Aside0.mk (blk_below (blk_new w (.cells #[.int .i64 k, .string s, .int .i64 id] 115)) hb2)
  have HK2 := Aside0.mk ((Kp.of_below (below_alloc (Below.refl w.heap.size w) (.cells #[.int .i64 k, .string s, .int .i64 id] 115))).trans hb2)
  clear hb2
  go_wp2_with fail
  refine (new_ok w2 n ma [] none 0 (c_none _ _ _) (by decide) H1.out H2.out).mono ?_
  rintro e w3 ⟨⟨g, v, rfl, -, -, -⟩, hb3⟩
  have HX3 := Aside0.mk (blk_below HX2.out hb3)
  have HK3 := Aside0.mk (HK2.out.trans hb3)
  clear hb3 HX2 HK2
  have x0 : ∀ m : BW w3, m.w'.cell? ⟨w.heap.size, 0, none⟩ = some (.int .i64 k) := fun m => m.h.cell ((blk_cell HX3.out 0).trans rfl)
  have x1 : ∀ m : BW w3, m.w'.cell? ⟨w.heap.size, 1, none⟩ = some (.string s) := fun m => m.h.cell ((blk_cell HX3.out 1).trans rfl)
  have x2 : ∀ m : BW w3, m.w'.cell? ⟨w.heap.size, 2, none⟩ = some (.int .i64 id) := fun m => m.h.cell ((blk_cell HX3.out 2).trans rfl)
  go_wp2_with fail
  refine region_quietB (by kernel_rfl) (by kernel_rfl) ?_
  repeat (go_big_quiet_step (first | (go_at_call 64; exact kp_awake _) | (go_at_call 69; exact kp_tick _) | (go_at_call 67; exact kp_ended _) | (go_at_call 70; exact kp_at _) | (go_at_call 66; exact kp_heard _) | (go_at_call 71; exact kp_session _) | (go_at_call 72; exact kp_check _ _ _ _ _ HB.out)))
  refine wpQuiet_nil ?_
  rintro _ ⟨nq, rfl⟩
  go_wp2_with fail
  go_ret
  exact ⟨rfl, HK3.out.trans nq.h⟩
set_option maxHeartbeats 8000000 in
set_option maxRecDepth 100000 in
theorem nil_43 (w : World) (n ma k id : Int) (s : ByteArray) (a0 : n ≥ 0) (a1 : n < 8) (a2 : ma ≥ 1) (a3 : ma ≤ 7) (c0 : k ≥ 1) (c1 : k ≤ 4) (c2 : id ≥ 0) :
    Calls Try.prog 13 #[.int .i64 n, .int .i64 ma, .agg #[.int .i64 k, .string s, .int .i64 id]] w fun e w' => e = .returned (.bool true) ∧ Kp w w' := by
  have HB : Aside0 ((decide (k ≥ 1) && decide (k ≤ 4) && decide (id ≥ 0)) = true) := Aside0.mk (by rw [decide_eq_true c0, decide_eq_true c1, decide_eq_true c2]; rfl)
  have H1 := Aside0.mk (show 0 ≤ n ∧ n < 8 from ⟨a0, a1⟩)
  have H2 := Aside0.mk (show 1 ≤ ma ∧ ma ≤ 7 from ⟨a2, a3⟩)
  have d0 : decide (n ≥ 0) = true := decide_eq_true a0
  have d1 : decide (n < 8) = true := decide_eq_true a1
  have d2 : decide (ma ≥ 1) = true := decide_eq_true a2
  have d3 : decide (ma ≤ 7) = true := decide_eq_true a3
  have e0 : decide (k ≥ 1) = true := decide_eq_true c0
  have e1 : decide (k ≤ 4) = true := decide_eq_true c1
  have e2 : decide (id ≥ 0) = true := decide_eq_true c2
  clear a0 a1 a2 a3 c0 c1 c2
  go_enter Try.func13, Try.ntmps13
  go_wp2_with fail
  refine (handle_nil _ _ rfl).mono ?_
  rintro e w2 ⟨rfl, hb2⟩
  have HX2 := Aside0.mk (blk_below (blk_new w (.cells #[.int .i64 k, .string s, .int .i64 id] 115)) hb2)
  have HK2 := Aside0.mk ((Kp.of_below (below_alloc (Below.refl w.heap.size w) (.cells #[.int .i64 k, .string s, .int .i64 id] 115))).trans hb2)
  clear hb2
  go_wp2_with fail
  refine (new_ok w2 n ma [] none 0 (c_none _ _ _) (by decide) H1.out H2.out).mono ?_
  rintro e w3 ⟨⟨g, v, rfl, -, -, -⟩, hb3⟩
  have HX3 := Aside0.mk (blk_below HX2.out hb3)
  have HK3 := Aside0.mk (HK2.out.trans hb3)
  clear hb3 HX2 HK2
  have x0 : ∀ m : BW w3, m.w'.cell? ⟨w.heap.size, 0, none⟩ = some (.int .i64 k) := fun m => m.h.cell ((blk_cell HX3.out 0).trans rfl)
  have x1 : ∀ m : BW w3, m.w'.cell? ⟨w.heap.size, 1, none⟩ = some (.string s) := fun m => m.h.cell ((blk_cell HX3.out 1).trans rfl)
  have x2 : ∀ m : BW w3, m.w'.cell? ⟨w.heap.size, 2, none⟩ = some (.int .i64 id) := fun m => m.h.cell ((blk_cell HX3.out 2).trans rfl)
  go_wp2_with fail
  refine region_quietB (by kernel_rfl) (by kernel_rfl) ?_
  repeat (go_big_quiet_step (first | (go_at_call 64; exact kp_awake _) | (go_at_call 69; exact kp_tick _) | (go_at_call 67; exact kp_ended _) | (go_at_call 70; exact kp_at _) | (go_at_call 66; exact kp_heard _) | (go_at_call 71; exact kp_session _) | (go_at_call 72; exact kp_check _ _ _ _ _ HB.out)))
  refine wpQuiet_nil ?_
  rintro _ ⟨nq, rfl⟩
  go_wp2_with fail
  go_ret
  exact ⟨rfl, HK3.out.trans nq.h⟩
theorem nil_calls (w : World) (n ma k id : Int) (s : ByteArray) :
    Calls Try.prog 13 #[.int .i64 n, .int .i64 ma, .agg #[.int .i64 k, .string s, .int .i64 id]] w fun e w' => e = .returned (.bool true) ∧ Kp w w' := by
  by_cases a0 : n ≥ 0
  · skip
    by_cases a1 : n < 8
    · skip
      by_cases a2 : ma ≥ 1
      · skip
        by_cases a3 : ma ≤ 7
        · skip
          by_cases c0 : k ≥ 1
          · skip
            by_cases c1 : k ≤ 4
            · skip
              by_cases c2 : id ≥ 0
              · skip
                exact nil_43 w n ma k id s a0 a1 a2 a3 c0 c1 c2
              · exact nil_42 w n ma k id s a0 a1 a2 a3 c0 c1 c2
            · exact nil_41 w n ma k id s a0 a1 a2 a3 c0 c1
          · exact nil_40 w n ma k id s a0 a1 a2 a3 c0
        · skip
          by_cases c0 : k ≥ 1
          · skip
            by_cases c1 : k ≤ 4
            · skip
              by_cases c2 : id ≥ 0
              · skip
                exact nil_33 w n ma k id s a0 a1 a2 a3 c0 c1 c2
              · exact nil_32 w n ma k id s a0 a1 a2 a3 c0 c1 c2
            · exact nil_31 w n ma k id s a0 a1 a2 a3 c0 c1
          · exact nil_30 w n ma k id s a0 a1 a2 a3 c0
      · skip
        by_cases c0 : k ≥ 1
        · skip
          by_cases c1 : k ≤ 4
          · skip
            by_cases c2 : id ≥ 0
            · skip
              exact nil_23 w n ma k id s a0 a1 a2 c0 c1 c2
            · exact nil_22 w n ma k id s a0 a1 a2 c0 c1 c2
          · exact nil_21 w n ma k id s a0 a1 a2 c0 c1
        · exact nil_20 w n ma k id s a0 a1 a2 c0
    · skip
      by_cases c0 : k ≥ 1
      · skip
        by_cases c1 : k ≤ 4
        · skip
          by_cases c2 : id ≥ 0
          · skip
            exact nil_13 w n ma k id s a0 a1 c0 c1 c2
          · exact nil_12 w n ma k id s a0 a1 c0 c1 c2
        · exact nil_11 w n ma k id s a0 a1 c0 c1
      · exact nil_10 w n ma k id s a0 a1 c0
  · skip
    by_cases c0 : k ≥ 1
    · skip
      by_cases c1 : k ≤ 4
      · skip
        by_cases c2 : id ≥ 0
        · skip
          exact nil_03 w n ma k id s a0 c0 c1 c2
        · exact nil_02 w n ma k id s a0 c0 c1 c2
      · exact nil_01 w n ma k id s a0 c0 c1
    · exact nil_00 w n ma k id s a0 c0
end Go.Proofs.Ytbeefbhoccdicaa.CliN
