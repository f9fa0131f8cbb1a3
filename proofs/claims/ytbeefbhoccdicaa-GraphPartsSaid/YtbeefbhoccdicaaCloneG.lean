/- slices.Clone of vertices and of edges: walked. -/
import Derived.Test.YtbeefbhoccdicaaBaseG
import Derived.WalkSpells
import Derived.Lib.SliceRun
namespace Go.Proofs.Ytbeefbhoccdicaa.CloneG
open Go.RowKit Go.Proofs.YtbeefbhoccdicaaW.PrintWords Go.Proofs.YtbeefbhoccdicaaW.PrintLast Go.Proofs.YtbeefbhoccdicaaW.PrintMore Go.Proofs.Ytbeefbhoccdicaa.QGraphReads
set_option linter.unusedVariables false
set_option linter.unusedSimpArgs false

theorem info53 : (Try.prog.info? 53).map (fun i => (i.zero, i.size, i.bytes)) = some (some (.agg #[(.int .i64 0), (.int .i64 0), (.slice none 0 0)]), 3, 40) := by kernel_rfl
theorem E_empty (w : World) : Kd.R k67 67 (w.alloc (.cells #[] 67)) w.heap.size (fun _ => True) (.slice (some ⟨w.heap.size, 0, none⟩) 0 0) [] :=
  ⟨fun _ _ => trivial, [], World.ownsRow_lit (base := w.heap.size) (e := 67) (size := 2) w #[] 0 (Nat.le_refl _) (by decide) rfl, Reps.none _ _⟩
theorem V_empty (w : World) : Kd.R (Kd.raw 3) 53 (w.alloc (.cells #[] 53)) w.heap.size (fun _ => True) (.slice (some ⟨w.heap.size, 0, none⟩) 0 0) [] :=
  ⟨fun _ _ => trivial, [], World.ownsRow_lit (base := w.heap.size) (e := 53) (size := 3) w #[] 0 (Nat.le_refl _) (by decide) rfl, Reps.none _ _⟩
theorem q51 (w : World) (a : Option Addr) (n c n' c' : Nat) : (binOp .eql 51 (.slice a n c) (.slice none n' c')).run Try.prog w = .ok (.bool a.isNone) w := Lib.run_eql_slice_nil w 51 67 a n c n' c' Try.underlying51
theorem q22 (w : World) (a : Option Addr) (n c n' c' : Nat) : (binOp .eql 22 (.slice a n c) (.slice none n' c')).run Try.prog w = .ok (.bool a.isNone) w := Lib.run_eql_slice_nil w 22 53 a n c n' c' Try.underlying22

set_option maxHeartbeats 4000000 in
set_option maxRecDepth 100000 in
theorem edges_calls (w : World) (es : List S67) (A : Option Addr) (c : Nat) (hr : Kd.C k67 w A es.length es) (hl : es.length * 16 ≤ 140737488355328) :
    Calls Try.prog 93 #[.slice A es.length c] w fun e w' => ∃ v, e = .returned v ∧ Kd.R k67 67 w' w.heap.size (fun _ => True) v es ∧ Below w.heap.size w w' := by
  have HR := Aside0.mk hr
  have hn0 : A = none → es = [] := by
    intro h
    rcases Nat.eq_zero_or_pos es.length with h0 | h0
    · exact List.length_eq_zero_iff.1 h0
    · obtain ⟨ad, e, _⟩ := hr.2.2 h0
      rw [h] at e; cases e
  have hq := q51
  clear hr
  rcases A with _ | ad
  · have h0 := hn0 rfl
    subst h0
    clear hn0
    go_enter Try.func93, Try.ntmps93
    go_wp2_with fail
    go_ret
    exact ⟨_, rfl, Kd.R_nil _ _ _ _ _, Below.refl _ _⟩
  · clear hn0
    go_enter Try.func93, Try.ntmps93
    go_wp2_with (first | ((with_reducible refine gate_builtin (b := .append) (xs := #[.tmp 5, .tmp 6]) rfl ?_); at_builtin; refine Kd.R_append_rows k67 (Rr := k67.K w) (w0 := w) w.heap.size rfl (.tmp 5) (.tmp 6) 51 67 (.agg #[.int .i64 0, .int .i64 0]) 16 rfl Try.underlying51 info67 rfl (by decide) (by omega) (.slice (some ⟨w.heap.size, 0, none⟩) 0 0) [] es (some ad) es.length c (fun _ => True) (fun _ => False) rfl rfl (E_empty w) (ReadsRow.imp_ HR.out (below_alloc (Below.refl _ _) _) (fun _ _ hp => hp)) ?aK (fun _ hk => hk.elim) (fun _ _ => trivial) (below_alloc (Below.refl _ _) _) (below_alloc (Below.refl _ _) _).size (by simpa using hl) ?_; (case aK => intro x cs hk; obtain rfl := k67_open hk; exact k67_mkM _ _ _ _); intro v1 w9 ho hb hg hat; have HO9 := Aside0.mk ho; have HB9 := Aside0.mk hb; clear ho hb hg hat))
    go_ret
    exact ⟨_, rfl, HO9.out, HB9.out⟩

set_option maxHeartbeats 4000000 in
set_option maxRecDepth 100000 in
theorem verts_calls (w : World) (rows : List (List Value)) (A : Option Addr) (c : Nat) (hr : Kd.C (Kd.raw 3) w A rows.length rows) (hl : rows.length * 40 ≤ 140737488355328) :
    Calls Try.prog 92 #[.slice A rows.length c] w fun e w' => ∃ v, e = .returned v ∧ Kd.R (Kd.raw 3) 53 w' w.heap.size (fun _ => True) v rows ∧ Below w.heap.size w w' := by
  have HR := Aside0.mk hr
  have hn0 : A = none → rows = [] := by
    intro h
    rcases Nat.eq_zero_or_pos rows.length with h0 | h0
    · exact List.length_eq_zero_iff.1 h0
    · obtain ⟨ad, e, _⟩ := hr.2.2 h0
      rw [h] at e; cases e
  have hq := q22
  clear hr
  rcases A with _ | ad
  · have h0 := hn0 rfl
    subst h0
    clear hn0
    go_enter Try.func92, Try.ntmps92
    go_wp2_with fail
    go_ret
    exact ⟨_, rfl, Kd.R_nil _ _ _ _ _, Below.refl _ _⟩
  · clear hn0
    go_enter Try.func92, Try.ntmps92
    go_wp2_with (first | ((with_reducible refine gate_builtin (b := .append) (xs := #[.tmp 5, .tmp 6]) rfl ?_); at_builtin; refine Kd.R_append_rows (Kd.raw 3) (Rr := (Kd.raw 3).K w) (w0 := w) w.heap.size rfl (.tmp 5) (.tmp 6) 22 53 (.agg #[.int .i64 0, .int .i64 0, .slice none 0 0]) 40 rfl Try.underlying22 info53 rfl (by decide) (by omega) (.slice (some ⟨w.heap.size, 0, none⟩) 0 0) [] rows (some ad) rows.length c (fun _ => True) (fun _ => False) rfl rfl (V_empty w) (ReadsRow.imp_ HR.out (below_alloc (Below.refl _ _) _) (fun _ _ hp => hp)) (fun _ _ hk => hk) (fun _ hk => hk.elim) (fun _ _ => trivial) (below_alloc (Below.refl _ _) _) (below_alloc (Below.refl _ _) _).size (by simpa using hl) ?_; intro v1 w9 ho hb hg hat; have HO9 := Aside0.mk ho; have HB9 := Aside0.mk hb; clear ho hb hg hat))
    go_ret
    exact ⟨_, rfl, HO9.out, HB9.out⟩
end Go.Proofs.Ytbeefbhoccdicaa.CloneG
