/- slices.Clone of calls, of what was heard, of values: walked. -/
import Derived.Test.YtbeefbhoccdicaaQClix1
import Derived.WalkSpells
import Derived.Lib.SliceRun
namespace Go.Proofs.Ytbeefbhoccdicaa.CloneC
open Go.RowKit Go.Proofs.YtbeefbhoccdicaaW.PrintWords Go.Proofs.YtbeefbhoccdicaaW.PrintLast Go.Proofs.YtbeefbhoccdicaaW.PrintMore Go.Proofs.Ytbeefbhoccdicaa.QGraphReads
set_option linter.unusedVariables false
set_option linter.unusedSimpArgs false

theorem info115 : (Try.prog.info? 115).map (fun i => (i.zero, i.size, i.bytes)) = some (some (.agg #[(.int .i64 0), (.string ⟨#[]⟩), (.int .i64 0)]), 3, 32) := by kernel_rfl
theorem info130 : (Try.prog.info? 130).map (fun i => (i.zero, i.size, i.bytes)) = some (some (.agg #[(.int .i64 0), (.int .i64 0), (.int .i64 0), (.int .i64 0), (.int .i64 0), (.int .i64 0), (.int .i64 0), (.int .i64 0), (.int .i64 0), (.int .i64 0), (.slice none 0 0)]), 11, 104) := by kernel_rfl

theorem q116 (w : World) (a : Option Addr) (n c n' c' : Nat) : (binOp .eql 116 (.slice a n c) (.slice none n' c')).run Try.prog w = .ok (.bool a.isNone) w := Lib.run_eql_slice_nil w 116 115 a n c n' c' Try.underlying116
theorem e116 (w : World) : Kd.R (Kd.raw 3) 115 (w.alloc (.cells #[] 115)) w.heap.size (fun _ => True) (.slice (some ⟨w.heap.size, 0, none⟩) 0 0) [] :=
  ⟨fun _ _ => trivial, [], World.ownsRow_lit (base := w.heap.size) (e := 115) (size := 3) w #[] 0 (Nat.le_refl _) (by decide) rfl, Reps.none _ _⟩
set_option maxHeartbeats 4000000 in
set_option maxRecDepth 100000 in
theorem calls_clone (w : World) (rows : List (List Value)) (A : Option Addr) (c : Nat) (hr : Kd.C (Kd.raw 3) w A rows.length rows) (hl : rows.length * 32 ≤ 140737488355328) :
    Calls Try.prog 101 #[.slice A rows.length c] w fun e w' => ∃ v, e = .returned v ∧ Kd.R (Kd.raw 3) 115 w' w.heap.size (fun _ => True) v rows ∧ Below w.heap.size w w' := by
  have HR := Aside0.mk hr
  have hn0 : A = none → rows = [] := by
    intro h
    rcases Nat.eq_zero_or_pos rows.length with h0 | h0
    · exact List.length_eq_zero_iff.1 h0
    · obtain ⟨ad, e, _⟩ := hr.2.2 h0
      rw [h] at e; cases e
  have hq := q116
  clear hr
  rcases A with _ | ad
  · have h0 := hn0 rfl
    subst h0
    clear hn0
    go_enter Try.func101, Try.ntmps101
    go_wp2_with fail
    go_ret
    exact ⟨_, rfl, Kd.R_nil _ _ _ _ _, Below.refl _ _⟩
  · clear hn0
    go_enter Try.func101, Try.ntmps101
    go_wp2_with (first | ((with_reducible refine gate_builtin (b := .append) (xs := #[.tmp 5, .tmp 6]) rfl ?_); at_builtin; refine Kd.R_append_rows (Kd.raw 3) (Rr := (Kd.raw 3).K w) (w0 := w) w.heap.size rfl (.tmp 5) (.tmp 6) 116 115 (.agg #[.int .i64 0, .string ⟨#[]⟩, .int .i64 0]) 32 rfl Try.underlying116 info115 rfl (by decide) (by omega) (.slice (some ⟨w.heap.size, 0, none⟩) 0 0) [] rows (some ad) rows.length c (fun _ => True) (fun _ => False) rfl rfl (e116 w) (ReadsRow.imp_ HR.out (below_alloc (Below.refl _ _) _) (fun _ _ hp => hp)) (fun _ _ hk => hk) (fun _ hk => hk.elim) (fun _ _ => trivial) (below_alloc (Below.refl _ _) _) (below_alloc (Below.refl _ _) _).size (by simpa using hl) ?_; intro v1 w9 ho hb hg hat; have HO9 := Aside0.mk ho; have HB9 := Aside0.mk hb; clear ho hb hg hat))
    go_ret
    exact ⟨_, rfl, HO9.out, HB9.out⟩

theorem q127 (w : World) (a : Option Addr) (n c n' c' : Nat) : (binOp .eql 127 (.slice a n c) (.slice none n' c')).run Try.prog w = .ok (.bool a.isNone) w := Lib.run_eql_slice_nil w 127 130 a n c n' c' Try.underlying127
theorem e127 (w : World) : Kd.R (Kd.raw 11) 130 (w.alloc (.cells #[] 130)) w.heap.size (fun _ => True) (.slice (some ⟨w.heap.size, 0, none⟩) 0 0) [] :=
  ⟨fun _ _ => trivial, [], World.ownsRow_lit (base := w.heap.size) (e := 130) (size := 11) w #[] 0 (Nat.le_refl _) (by decide) rfl, Reps.none _ _⟩
set_option maxHeartbeats 4000000 in
set_option maxRecDepth 100000 in
theorem heard_clone (w : World) (rows : List (List Value)) (A : Option Addr) (c : Nat) (hr : Kd.C (Kd.raw 11) w A rows.length rows) (hl : rows.length * 104 ≤ 140737488355328) :
    Calls Try.prog 104 #[.slice A rows.length c] w fun e w' => ∃ v, e = .returned v ∧ Kd.R (Kd.raw 11) 130 w' w.heap.size (fun _ => True) v rows ∧ Below w.heap.size w w' := by
  have HR := Aside0.mk hr
  have hn0 : A = none → rows = [] := by
    intro h
    rcases Nat.eq_zero_or_pos rows.length with h0 | h0
    · exact List.length_eq_zero_iff.1 h0
    · obtain ⟨ad, e, _⟩ := hr.2.2 h0
      rw [h] at e; cases e
  have hq := q127
  clear hr
  rcases A with _ | ad
  · have h0 := hn0 rfl
    subst h0
    clear hn0
    go_enter Try.func104, Try.ntmps104
    go_wp2_with fail
    go_ret
    exact ⟨_, rfl, Kd.R_nil _ _ _ _ _, Below.refl _ _⟩
  · clear hn0
    go_enter Try.func104, Try.ntmps104
    go_wp2_with (first | ((with_reducible refine gate_builtin (b := .append) (xs := #[.tmp 5, .tmp 6]) rfl ?_); at_builtin; refine Kd.R_append_rows (Kd.raw 11) (Rr := (Kd.raw 11).K w) (w0 := w) w.heap.size rfl (.tmp 5) (.tmp 6) 127 130 (.agg #[.int .i64 0, .int .i64 0, .int .i64 0, .int .i64 0, .int .i64 0, .int .i64 0, .int .i64 0, .int .i64 0, .int .i64 0, .int .i64 0, .slice none 0 0]) 104 rfl Try.underlying127 info130 rfl (by decide) (by omega) (.slice (some ⟨w.heap.size, 0, none⟩) 0 0) [] rows (some ad) rows.length c (fun _ => True) (fun _ => False) rfl rfl (e127 w) (ReadsRow.imp_ HR.out (below_alloc (Below.refl _ _) _) (fun _ _ hp => hp)) (fun _ _ hk => hk) (fun _ hk => hk.elim) (fun _ _ => trivial) (below_alloc (Below.refl _ _) _) (below_alloc (Below.refl _ _) _).size (by simpa using hl) ?_; intro v1 w9 ho hb hg hat; have HO9 := Aside0.mk ho; have HB9 := Aside0.mk hb; clear ho hb hg hat))
    go_ret
    exact ⟨_, rfl, HO9.out, HB9.out⟩

theorem q118 (w : World) (a : Option Addr) (n c n' c' : Nat) : (binOp .eql 118 (.slice a n c) (.slice none n' c')).run Try.prog w = .ok (.bool a.isNone) w := Lib.run_eql_slice_nil w 118 198 a n c n' c' Try.underlying118
theorem e118 (w : World) : Kd.R (Kd.raw 2) 198 (w.alloc (.cells #[] 198)) w.heap.size (fun _ => True) (.slice (some ⟨w.heap.size, 0, none⟩) 0 0) [] :=
  ⟨fun _ _ => trivial, [], World.ownsRow_lit (base := w.heap.size) (e := 198) (size := 2) w #[] 0 (Nat.le_refl _) (by decide) rfl, Reps.none _ _⟩
set_option maxHeartbeats 4000000 in
set_option maxRecDepth 100000 in
theorem values_clone (w : World) (rows : List (List Value)) (A : Option Addr) (c : Nat) (hr : Kd.C (Kd.raw 2) w A rows.length rows) (hl : rows.length * 16 ≤ 140737488355328) :
    Calls Try.prog 105 #[.slice A rows.length c] w fun e w' => ∃ v, e = .returned v ∧ Kd.R (Kd.raw 2) 198 w' w.heap.size (fun _ => True) v rows ∧ Below w.heap.size w w' := by
  have HR := Aside0.mk hr
  have hn0 : A = none → rows = [] := by
    intro h
    rcases Nat.eq_zero_or_pos rows.length with h0 | h0
    · exact List.length_eq_zero_iff.1 h0
    · obtain ⟨ad, e, _⟩ := hr.2.2 h0
      rw [h] at e; cases e
  have hq := q118
  clear hr
  rcases A with _ | ad
  · have h0 := hn0 rfl
    subst h0
    clear hn0
    go_enter Try.func105, Try.ntmps105
    go_wp2_with fail
    go_ret
    exact ⟨_, rfl, Kd.R_nil _ _ _ _ _, Below.refl _ _⟩
  · clear hn0
    go_enter Try.func105, Try.ntmps105
    go_wp2_with (first | ((with_reducible refine gate_builtin (b := .append) (xs := #[.tmp 5, .tmp 6]) rfl ?_); at_builtin; refine Kd.R_append_rows (Kd.raw 2) (Rr := (Kd.raw 2).K w) (w0 := w) w.heap.size rfl (.tmp 5) (.tmp 6) 118 198 (.agg #[.int .i64 0, .int .i64 0]) 16 rfl Try.underlying118 info198 rfl (by decide) (by omega) (.slice (some ⟨w.heap.size, 0, none⟩) 0 0) [] rows (some ad) rows.length c (fun _ => True) (fun _ => False) rfl rfl (e118 w) (ReadsRow.imp_ HR.out (below_alloc (Below.refl _ _) _) (fun _ _ hp => hp)) (fun _ _ hk => hk) (fun _ hk => hk.elim) (fun _ _ => trivial) (below_alloc (Below.refl _ _) _) (below_alloc (Below.refl _ _) _).size (by simpa using hl) ?_; intro v1 w9 ho hb hg hat; have HO9 := Aside0.mk ho; have HB9 := Aside0.mk hb; clear ho hb hg hat))
    go_ret
    exact ⟨_, rfl, HO9.out, HB9.out⟩
end Go.Proofs.Ytbeefbhoccdicaa.CloneC
