/- A client: made, its small words: walked. -/
import Derived.Test.YtbeefbhoccdicaaCloneC
import Derived.BigQuiet
namespace Go.Proofs.Ytbeefbhoccdicaa.CliA
open Go.RowKit Go.Proofs.YtbeefbhoccdicaaW.PrintWords Go.Proofs.YtbeefbhoccdicaaW.PrintLast Go.Proofs.YtbeefbhoccdicaaW.PrintMore Go.Proofs.Ytbeefbhoccdicaa.QGraphReads Go.Proofs.Ytbeefbhoccdicaa.CloneC
set_option linter.unusedVariables false
set_option linter.unusedSimpArgs false

/-- A client's cells. -/
def cliC (n ma ld : Int) (l : Value) (at_ seq since silent : Int) (h : Value) : Array Value := #[.int .i64 n, .int .i64 ma, .int .i64 ld, l, .int .i64 at_, .int .i64 seq, .int .i64 since, .int .i64 silent, h]
/-- A client at block g: its calls (nl of them, from Al on), what it heard. -/
def Cli (w : World) (g : Nat) (n ma ld : Int) (l : Value) (at_ seq since silent : Int) (h : Value) : Prop := w.heap[g]? = some (.cells (cliC n ma ld l at_ seq since silent h) 177 (0, 0))
theorem Cli.c0 {w : World} {g : Nat} {n ma ld : Int} {l : Value} {at_ seq since silent : Int} {h : Value} (H : Cli w g n ma ld l at_ seq since silent h) : w.cell? ⟨g, 0, none⟩ = some (.int .i64 n) := (blk_cell H 0).trans rfl
theorem Cli.c1 {w : World} {g : Nat} {n ma ld : Int} {l : Value} {at_ seq since silent : Int} {h : Value} (H : Cli w g n ma ld l at_ seq since silent h) : w.cell? ⟨g, 1, none⟩ = some (.int .i64 ma) := (blk_cell H 1).trans rfl
theorem Cli.c2 {w : World} {g : Nat} {n ma ld : Int} {l : Value} {at_ seq since silent : Int} {h : Value} (H : Cli w g n ma ld l at_ seq since silent h) : w.cell? ⟨g, 2, none⟩ = some (.int .i64 ld) := (blk_cell H 2).trans rfl
theorem Cli.c3 {w : World} {g : Nat} {n ma ld : Int} {l : Value} {at_ seq since silent : Int} {h : Value} (H : Cli w g n ma ld l at_ seq since silent h) : w.cell? ⟨g, 3, none⟩ = some (l) := (blk_cell H 3).trans rfl
theorem Cli.c4 {w : World} {g : Nat} {n ma ld : Int} {l : Value} {at_ seq since silent : Int} {h : Value} (H : Cli w g n ma ld l at_ seq since silent h) : w.cell? ⟨g, 4, none⟩ = some (.int .i64 at_) := (blk_cell H 4).trans rfl
theorem Cli.c5 {w : World} {g : Nat} {n ma ld : Int} {l : Value} {at_ seq since silent : Int} {h : Value} (H : Cli w g n ma ld l at_ seq since silent h) : w.cell? ⟨g, 5, none⟩ = some (.int .i64 seq) := (blk_cell H 5).trans rfl
theorem Cli.c6 {w : World} {g : Nat} {n ma ld : Int} {l : Value} {at_ seq since silent : Int} {h : Value} (H : Cli w g n ma ld l at_ seq since silent h) : w.cell? ⟨g, 6, none⟩ = some (.int .i64 since) := (blk_cell H 6).trans rfl
theorem Cli.c7 {w : World} {g : Nat} {n ma ld : Int} {l : Value} {at_ seq since silent : Int} {h : Value} (H : Cli w g n ma ld l at_ seq since silent h) : w.cell? ⟨g, 7, none⟩ = some (.int .i64 silent) := (blk_cell H 7).trans rfl
theorem Cli.c8 {w : World} {g : Nat} {n ma ld : Int} {l : Value} {at_ seq since silent : Int} {h : Value} (H : Cli w g n ma ld l at_ seq since silent h) : w.cell? ⟨g, 8, none⟩ = some (h) := (blk_cell H 8).trans rfl

theorem ended_nil (w : World) : Calls Try.prog 67 #[.pointer none] w fun e w' => e = .returned (.bool true) ∧ ∃ m, w' = w.drewN m := by
  go_enter Try.func67, Try.ntmps67
  go_wp2_with fail
  go_quiet (fail)
  go_wp2_with fail
  go_ret
  exact ⟨rfl, _, rfl⟩
set_option maxHeartbeats 4000000 in
theorem ended_calls (w : World) (g : Nat) (n ma ld : Int) (A : Option Addr) (nl cl : Nat) (at_ seq since silent : Int) (h : Value) (H : Cli w g n ma ld (.slice A nl cl) at_ seq since silent h) :
    Calls Try.prog 67 #[.pointer (some ⟨g, 0, none⟩)] w fun e w' => e = .returned (.bool (decide (at_ ≥ (nl : Int)))) ∧ ∃ m, w' = w.drewN m := by
  have h3 := H.c3
  have h4 := H.c4
  go_enter Try.func67, Try.ntmps67
  go_wp2_with fail
  go_quiet (fail)
  go_wp2_with fail
  go_ret
  exact ⟨rfl, _, rfl⟩
theorem session_nil (w : World) : Calls Try.prog 71 #[.pointer none] w fun e w' => e = .returned (.int .i64 0) ∧ w = w' := by
  go_enter Try.func71, Try.ntmps71
  go_wp2_with fail
  go_ret
  exact ⟨rfl, rfl⟩
theorem session_calls (w : World) (g : Nat) (n ma ld : Int) (l : Value) (at_ seq since silent : Int) (h : Value) (H : Cli w g n ma ld l at_ seq since silent h) (hn : 0 ≤ n ∧ n ≤ 100) :
    Calls Try.prog 71 #[.pointer (some ⟨g, 0, none⟩)] w fun e w' => e = .returned (.int .i64 (n + 1)) ∧ w = w' := by
  have h0 := H.c0
  go_enter Try.func71, Try.ntmps71
  go_wp2_with fail
  go_ret
  exact ⟨rfl, rfl⟩
theorem at_nil (w : World) : Calls Try.prog 70 #[.pointer none] w fun e w' => e = .returned (.int .i64 0) ∧ w = w' := by
  go_enter Try.func70, Try.ntmps70
  go_wp2_with fail
  go_ret
  exact ⟨rfl, rfl⟩
set_option maxHeartbeats 4000000 in
theorem new_ok (w : World) (n ma : Int) (rows : List (List Value)) (A : Option Addr) (c : Nat) (hr : Kd.C (Kd.raw 3) w A rows.length rows) (hl : rows.length * 32 ≤ 140737488355328) (h1 : 0 ≤ n ∧ n < 8) (h2 : 1 ≤ ma ∧ ma ≤ 7) :
    Calls Try.prog 63 #[.int .i64 n, .int .i64 ma, .slice A rows.length c] w fun e w' => (∃ g v, e = .returned (.tuple #[.pointer (some ⟨g, 0, none⟩), .int .i64 0]) ∧ Cli w' g n ma 0 v 0 0 0 0 (.slice none 0 0) ∧ Kd.R (Kd.raw 3) 115 w' w.heap.size (fun _ => True) v rows ∧ w.heap.size ≤ g) ∧ Below w.heap.size w w' := by
  have HR := Aside0.mk hr
  clear hr
  have e1 : (n < 0) = False := eq_false (by omega)
  have e2 : (n ≥ 8) = False := eq_false (by omega)
  have e3 : (ma < 1) = False := eq_false (by omega)
  have e4 : (ma > 7) = False := eq_false (by omega)
  have d1 : decide (n < 0) = false := decide_eq_false (by omega)
  have d2 : decide (n ≥ 8) = false := decide_eq_false (by omega)
  have d3 : decide (ma < 1) = false := decide_eq_false (by omega)
  have d4 : decide (ma > 7) = false := decide_eq_false (by omega)
  go_enter Try.func63, Try.ntmps63
  go_wp2_with fail
  refine (calls_clone w rows A c HR.out hl).mono ?_
  rintro e w1 ⟨v, rfl, hv, hb⟩
  obtain ⟨A1, c1, rfl⟩ := Kd.R_slice hv
  have HV := Aside0.mk hv
  have HB := Aside0.mk hb
  clear hv hb
  go_wp2_with fail
  go_ret2
  exact ⟨⟨_, _, rfl, blk_new w1 _, Kd.R_alloc HV.out _, HB.out.size⟩, below_alloc HB.out _⟩
theorem new_bad (w : World) (n ma : Int) (v : Value) (h : ¬ ((0 ≤ n ∧ n < 8) ∧ (1 ≤ ma ∧ ma ≤ 7))) :
    Calls Try.prog 63 #[.int .i64 n, .int .i64 ma, v] w fun e w' => e = .returned (.tuple #[.pointer none, .int .i64 1]) ∧ w = w' := by
  by_cases b1 : n < 0
  · have d1 : decide (n < 0) = true := decide_eq_true b1
    clear b1 h
    go_enter Try.func63, Try.ntmps63
    go_wp2_with fail
    go_ret2
    exact ⟨rfl, rfl⟩
  have d1 : decide (n < 0) = false := decide_eq_false b1
  by_cases b2 : n ≥ 8
  · have d2 : decide (n ≥ 8) = true := decide_eq_true b2
    clear b1 b2 h
    go_enter Try.func63, Try.ntmps63
    go_wp2_with fail
    go_ret2
    exact ⟨rfl, rfl⟩
  have d2 : decide (n ≥ 8) = false := decide_eq_false b2
  by_cases b3 : ma < 1
  · have d3 : decide (ma < 1) = true := decide_eq_true b3
    clear b1 b2 b3 h
    go_enter Try.func63, Try.ntmps63
    go_wp2_with fail
    go_ret2
    exact ⟨rfl, rfl⟩
  have d3 : decide (ma < 1) = false := decide_eq_false b3
  have b4 : ma > 7 := by omega
  have d4 : decide (ma > 7) = true := decide_eq_true b4
  clear b1 b2 b3 b4 h
  go_enter Try.func63, Try.ntmps63
  go_wp2_with fail
  go_ret2
  exact ⟨rfl, rfl⟩
theorem check_calls (w : World) (k id : Int) (s : ByteArray) : Calls Try.prog 72 #[.agg #[.int .i64 k, .string s, .int .i64 id]] w fun e w' => e = .returned (.bool (decide (k ≥ 1) && decide (k ≤ 4) && decide (id ≥ 0))) ∧ Below w.heap.size w w' := by
  by_cases b1 : k ≥ 1
  · have d1 : decide (k ≥ 1) = true := decide_eq_true b1
    rw [d1]
    by_cases b2 : k ≤ 4
    · have d2 : decide (k ≤ 4) = true := decide_eq_true b2
      rw [d2]
      clear b1 b2
      generalize hd : decide (id ≥ 0) = d3
      go_enter Try.func72, Try.ntmps72
      go_wp2_with fail
      go_ret
      exact ⟨by rw [← hd]; rfl, below_alloc (Below.refl _ _) _⟩
    · have d2 : decide (k ≤ 4) = false := decide_eq_false b2
      rw [d2]
      clear b1 b2
      go_enter Try.func72, Try.ntmps72
      go_wp2_with fail
      go_ret
      exact ⟨rfl, below_alloc (Below.refl _ _) _⟩
  · have d1 : decide (k ≥ 1) = false := decide_eq_false b1
    rw [d1]
    clear b1
    go_enter Try.func72, Try.ntmps72
    go_wp2_with fail
    go_ret
    exact ⟨rfl, below_alloc (Below.refl _ _) _⟩
end Go.Proofs.Ytbeefbhoccdicaa.CliA
