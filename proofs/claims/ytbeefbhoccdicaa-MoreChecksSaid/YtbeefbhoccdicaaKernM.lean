/- The messages and the requests that a vertex sends along its edges: To and Back, walked. -/
import Derived.Test.YtbeefbhoccdicaaQGraphReadsx0
import Derived.OpenShut
namespace Go.Proofs.Ytbeefbhoccdicaa.KernM
open Go.RowKit Go.Proofs.YtbeefbhoccdicaaW.PrintWords Go.Proofs.YtbeefbhoccdicaaW.PrintLast Go.Proofs.YtbeefbhoccdicaaW.PrintMore Go.Proofs.Ytbeefbhoccdicaa.QGraphReads
set_option linter.unusedVariables false
set_option linter.unusedSimpArgs false

/-- Four whole numbers: a message, a request. -/
structure S4 where
  f0 : Int
  f1 : Int
  f2 : Int
  f3 : Int
def z4 : S4 := ⟨0, 0, 0, 0⟩
def k4 : Kd S4 := Kd.iso (Kd.pair (Kd.int .i64) (Kd.pair (Kd.int .i64) (Kd.pair (Kd.int .i64) (Kd.int .i64)))) (fun x : S4 => (x.f0, x.f1, x.f2, x.f3))
theorem k4_open {w : World} {x : S4} {cs : List Value} (h : k4.K w x cs) : cs = [.int .i64 x.f0, .int .i64 x.f1, .int .i64 x.f2, .int .i64 x.f3] := by
  obtain ⟨_, _, rfl, rfl, ⟨_, _, rfl, rfl, ⟨_, _, rfl, rfl, rfl⟩⟩⟩ := h
  exact rfl
theorem k4_mkM (w : World) (base : Nat) (ok : Nat → Prop) (x : S4) : k4.M w base ok x [.int .i64 x.f0, .int .i64 x.f1, .int .i64 x.f2, .int .i64 x.f3] :=
  ⟨[.int .i64 x.f0], [.int .i64 x.f1, .int .i64 x.f2, .int .i64 x.f3], rfl, rfl, ⟨[.int .i64 x.f1], [.int .i64 x.f2, .int .i64 x.f3], rfl, rfl, ⟨[.int .i64 x.f2], [.int .i64 x.f3], rfl, rfl, rfl⟩⟩⟩
def rd4 (xs : List S4) (i : Int) : S4 := xs.getD i.toNat z4
theorem at4 {w : World} {A : Option Addr} {n : Nat} {xs : List S4} (h : Kd.C k4 w A n xs) (i : Int) (h0 : 0 ≤ i) (h1 : i < n) : ∃ ad, A = some ad ∧ w.cell? (ad.add (i.toNat * 4)) = some (.int .i64 (rd4 xs i).f0) ∧ w.cell? ⟨(ad.add (i.toNat * 4)).block, (ad.add (i.toNat * 4)).off + 1, none⟩ = some (.int .i64 (rd4 xs i).f1) ∧ w.cell? ⟨(ad.add (i.toNat * 4)).block, (ad.add (i.toNat * 4)).off + 2, none⟩ = some (.int .i64 (rd4 xs i).f2) ∧ w.cell? ⟨(ad.add (i.toNat * 4)).block, (ad.add (i.toNat * 4)).off + 3, none⟩ = some (.int .i64 (rd4 xs i).f3) := by
  obtain ⟨ad, c, e, _, hK, hc0⟩ := Kd.C_get h z4 i h0 h1
  have hc : ∀ j u, c[j]? = some u → w.cell? (ad.add (i.toNat * 4 + j)) = some u := hc0
  obtain rfl := k4_open hK
  exact ⟨ad, e, hc 0 _ rfl, by rw [← add_field _ _ 1 (by omega)]; exact hc 1 _ rfl, by rw [← add_field _ _ 2 (by omega)]; exact hc 2 _ rfl, by rw [← add_field _ _ 3 (by omega)]; exact hc 3 _ rfl⟩
theorem info86 : (Try.prog.info? 86).map (fun i => (i.zero, i.size, i.bytes)) = some (some (.agg #[.int .i64 0, .int .i64 0, .int .i64 0, .int .i64 0]), 4, 32) := by kernel_rfl
theorem info88 : (Try.prog.info? 88).map (fun i => (i.zero, i.size, i.bytes)) = some (some (.agg #[.int .i64 0, .int .i64 0, .int .i64 0, .int .i64 0]), 4, 32) := by kernel_rfl

def toL (id v : Int) (L : List S67) (k : Nat) : List S4 := (List.range k).map fun i => ⟨id, (L.getD i z67).f0, i, v⟩
def backL (id : Int) (L : List S67) (k : Nat) : List S4 := (List.range k).map fun i => ⟨4, (L.getD i z67).f0, id, 0⟩
theorem toL_len (id v : Int) (L : List S67) (k : Nat) : (toL id v L k).length = k := by simp [toL]
theorem backL_len (id : Int) (L : List S67) (k : Nat) : (backL id L k).length = k := by simp [backL]
theorem toL_succ (id v : Int) (L : List S67) (k : Nat) : toL id v L (k + 1) = toL id v L k ++ [⟨id, (L.getD k z67).f0, k, v⟩] := by simp [toL, List.range_succ]
theorem backL_succ (id : Int) (L : List S67) (k : Nat) : backL id L (k + 1) = backL id L k ++ [⟨4, (L.getD k z67).f0, id, 0⟩] := by simp [backL, List.range_succ]

set_option maxHeartbeats 4000000 in
set_option maxRecDepth 100000 in
theorem to_calls (w : World) (L : List S67) (A : Option Addr) (c : Nat) (id v : Int) (c0 c2 c4 c5 c6 c7 c8 c9 c10 c11 c12 c13 c14 c15 c16 c17 : Value) (hr : Kd.C k67 w A L.length L) (hl : L.length * 32 ≤ 140737488355328) :
    Calls Try.prog 42 #[.agg #[c0, .int .i64 id, c2, .slice A L.length c, c4, c5, c6, c7, c8, c9, c10, c11, c12, c13, c14, c15, c16, c17], .int .i64 v] w fun e w' => (∃ u, e = .returned u ∧ Kd.R k4 86 w' w.heap.size (fun _ => True) u (toL id v L L.length)) ∧ Below w.heap.size w w' := by
  have hmax : L.length ≤ 9223372036854775807 := hr.2.1
  have HR := Aside0.mk hr
  clear hr
  generalize hw1 : w.alloc (.cells #[c0, .int .i64 id, c2, .slice A L.length c, c4, c5, c6, c7, c8, c9, c10, c11, c12, c13, c14, c15, c16, c17] 81) = w1
  have hx1 : w1.heap[w.heap.size]? = some (.cells #[c0, .int .i64 id, c2, .slice A L.length c, c4, c5, c6, c7, c8, c9, c10, c11, c12, c13, c14, c15, c16, c17] 81 (0, 0)) := by rw [← hw1]; exact blk_new w _
  have hb1 : Below w.heap.size w w1 := by rw [← hw1]; exact below_alloc (Below.refl _ _) _
  have hc1 : w1.cell? ⟨w.heap.size, 3, none⟩ = some (.slice A L.length c) := (blk_cell hx1 3).trans rfl
  have HX := Aside0.mk hx1
  have HB1 := Aside0.mk hb1
  clear hx1 hb1
  go_enter Try.func42, Try.ntmps42
  go_wp2_with fail
  go_loopw [5, 12] (fun v5 v12 wr => ∃ k : Nat, v12 = .int .i64 (k : Int) ∧ k ≤ L.length ∧ Aside0 (Kd.R k4 86 wr w1.heap.size (fun _ => True) v5 (toL id v L k)) ∧ Aside0 (Below w1.heap.size w1 wr)) (fun _ v12 _ => (L.length - (intOf v12)).toNat)
  case atStart => exact ⟨0, rfl, Nat.zero_le _, ⟨Kd.R_nil _ _ _ _ _⟩, ⟨Below.refl _ _⟩⟩
  case round =>
    obtain ⟨k, rfl, hk, HO, HB⟩ := hrel
    have hcr : wr.cell? ⟨w.heap.size, 1, none⟩ = some (.int .i64 id) := (blk_cell (blk_below HX.out HB.out) 1).trans rfl
    rcases Nat.lt_or_ge k L.length with hlt | hge
    · have hlt1 : ((k : Int) < (L.length : Int)) = True := eq_true (by omega)
      obtain ⟨ad, hA, hx0, hx1⟩ := at_T67 HR.out (k : Int) (by omega) (by omega)
      subst hA
      replace hx0 := ((below_then HB1.out HB1.out.size HB.out).cell (World.block_lt_of_cell? _ _ hx0)).trans hx0
      replace hx1 := ((below_then HB1.out HB1.out.size HB.out).cell (World.block_lt_of_cell? _ _ hx1)).trans hx1
      rw [Int.toNat_natCast] at hx0 hx1
      have hsl := toL_len id v L k
      have hlw : w.heap.size < wr.heap.size := blk_lt (blk_below HX.out HB.out)
      have hne : (w.heap.size = wr.heap.size) = False := eq_false (by omega)
      obtain ⟨A5, c5, hA5, -⟩ := Kd.R_reads HO.out
      rw [hsl] at hA5
      subst hA5
      generalize hed : rd_T67 L (k : Int) = ed at hx0 hx1
      have hed' : L.getD k z67 = ed := hed
      clear hed
      go_wp2_with (first | ((with_reducible refine gate_builtin (b := .append) (xs := #[.tmp 16, .tmp 26]) rfl ?_); at_builtin; refine Kd.R_append k4 (w0 := w1) w1.heap.size rfl (.tmp 16) (.tmp 26) 75 86 (.agg #[.int .i64 0, .int .i64 0, .int .i64 0, .int .i64 0]) 32 rfl Try.underlying75 info86 rfl (by decide) (by omega) (.slice A5 k c5) (toL id v L k) (⟨id, ed.f0, k, v⟩ : S4) [.int .i64 id, .int .i64 ed.f0, .int .i64 k, .int .i64 v] (fun _ => True) (fun _ => False) rfl (by show Value.slice (some ⟨_, 0, none⟩) 1 1 = _; rw [World.size_alloc]) ?aP (fun _ hk => hk.elim) ?aF ?aO ?aB ?aS ?aL ?_; (case aP => exact k4_mkM _ _ _ (⟨id, ed.f0, k, v⟩ : S4)); (case aB => exact below_alloc HB.out _); (case aF => exact fun _ _ => trivial); (case aO => exact Kd.R_alloc HO.out _); (case aS => exact (below_alloc HB.out _).size); (case aL => rw [hsl]; omega); intro v1 w4 ho hb hg hat; have HO4 := Aside0.mk ho; have HB4 := Aside0.mk hb; clear ho hb hg hat))
      go_roundw
      case rel =>
        refine ⟨k + 1, by go_num, by omega, ⟨?_⟩, HB4⟩
        rw [toL_succ, hed']
        exact HO4.out
      case measure => simp [intOf]; omega
    · have hk1 : k = L.length := by omega
      subst hk1
      have hlt1 : ((L.length : Int) < (L.length : Int)) = False := eq_false (by omega)
      go_wp2_with fail
      go_ret
      exact ⟨⟨_, rfl, Kd.R_lower HO.out HB1.out.size⟩, below_then HB1.out HB1.out.size HB.out⟩
set_option maxHeartbeats 4000000 in
set_option maxRecDepth 100000 in
theorem back_calls (w : World) (L : List S67) (A : Option Addr) (c : Nat) (id : Int) (c0 c2 c4 c5 c6 c7 c8 c9 c10 c11 c12 c13 c14 c15 c16 c17 : Value) (hr : Kd.C k67 w A L.length L) (hl : L.length * 32 ≤ 140737488355328) :
    Calls Try.prog 43 #[.agg #[c0, .int .i64 id, c2, .slice A L.length c, c4, c5, c6, c7, c8, c9, c10, c11, c12, c13, c14, c15, c16, c17]] w fun e w' => (∃ u, e = .returned u ∧ Kd.R k4 88 w' w.heap.size (fun _ => True) u (backL id L L.length)) ∧ Below w.heap.size w w' := by
  have hmax : L.length ≤ 9223372036854775807 := hr.2.1
  have HR := Aside0.mk hr
  clear hr
  generalize hw1 : w.alloc (.cells #[c0, .int .i64 id, c2, .slice A L.length c, c4, c5, c6, c7, c8, c9, c10, c11, c12, c13, c14, c15, c16, c17] 81) = w1
  have hx1 : w1.heap[w.heap.size]? = some (.cells #[c0, .int .i64 id, c2, .slice A L.length c, c4, c5, c6, c7, c8, c9, c10, c11, c12, c13, c14, c15, c16, c17] 81 (0, 0)) := by rw [← hw1]; exact blk_new w _
  have hb1 : Below w.heap.size w w1 := by rw [← hw1]; exact below_alloc (Below.refl _ _) _
  have hc1 : w1.cell? ⟨w.heap.size, 3, none⟩ = some (.slice A L.length c) := (blk_cell hx1 3).trans rfl
  have HX := Aside0.mk hx1
  have HB1 := Aside0.mk hb1
  clear hx1 hb1
  go_enter Try.func43, Try.ntmps43
  go_wp2_with fail
  go_loopw [3, 10] (fun v5 v12 wr => ∃ k : Nat, v12 = .int .i64 (k : Int) ∧ k ≤ L.length ∧ Aside0 (Kd.R k4 88 wr w1.heap.size (fun _ => True) v5 (backL id L k)) ∧ Aside0 (Below w1.heap.size w1 wr)) (fun _ v12 _ => (L.length - (intOf v12)).toNat)
  case atStart => exact ⟨0, rfl, Nat.zero_le _, ⟨Kd.R_nil _ _ _ _ _⟩, ⟨Below.refl _ _⟩⟩
  case round =>
    obtain ⟨k, rfl, hk, HO, HB⟩ := hrel
    have hcr : wr.cell? ⟨w.heap.size, 1, none⟩ = some (.int .i64 id) := (blk_cell (blk_below HX.out HB.out) 1).trans rfl
    rcases Nat.lt_or_ge k L.length with hlt | hge
    · have hlt1 : ((k : Int) < (L.length : Int)) = True := eq_true (by omega)
      obtain ⟨ad, hA, hx0, hx1⟩ := at_T67 HR.out (k : Int) (by omega) (by omega)
      subst hA
      replace hx0 := ((below_then HB1.out HB1.out.size HB.out).cell (World.block_lt_of_cell? _ _ hx0)).trans hx0
      replace hx1 := ((below_then HB1.out HB1.out.size HB.out).cell (World.block_lt_of_cell? _ _ hx1)).trans hx1
      rw [Int.toNat_natCast] at hx0 hx1
      have hsl := backL_len id L k
      have hlw : w.heap.size < wr.heap.size := blk_lt (blk_below HX.out HB.out)
      have hne : (w.heap.size = wr.heap.size) = False := eq_false (by omega)
      obtain ⟨A5, c5, hA5, -⟩ := Kd.R_reads HO.out
      rw [hsl] at hA5
      subst hA5
      generalize hed : rd_T67 L (k : Int) = ed at hx0 hx1
      have hed' : L.getD k z67 = ed := hed
      clear hed
      go_wp2_with (first | ((with_reducible refine gate_builtin (b := .append) (xs := #[.tmp 14, .tmp 21]) rfl ?_); at_builtin; refine Kd.R_append k4 (w0 := w1) w1.heap.size rfl (.tmp 14) (.tmp 21) 83 88 (.agg #[.int .i64 0, .int .i64 0, .int .i64 0, .int .i64 0]) 32 rfl Try.underlying83 info88 rfl (by decide) (by omega) (.slice A5 k c5) (backL id L k) (⟨4, ed.f0, id, 0⟩ : S4) [.int .i64 4, .int .i64 ed.f0, .int .i64 id, .int .i64 0] (fun _ => True) (fun _ => False) rfl (by show Value.slice (some ⟨_, 0, none⟩) 1 1 = _; rw [World.size_alloc]) ?aP (fun _ hk => hk.elim) ?aF ?aO ?aB ?aS ?aL ?_; (case aP => exact k4_mkM _ _ _ (⟨4, ed.f0, id, 0⟩ : S4)); (case aB => exact below_alloc HB.out _); (case aF => exact fun _ _ => trivial); (case aO => exact Kd.R_alloc HO.out _); (case aS => exact (below_alloc HB.out _).size); (case aL => rw [hsl]; omega); intro v1 w4 ho hb hg hat; have HO4 := Aside0.mk ho; have HB4 := Aside0.mk hb; clear ho hb hg hat))
      go_roundw
      case rel =>
        refine ⟨k + 1, by go_num, by omega, ⟨?_⟩, HB4⟩
        rw [backL_succ, hed']
        exact HO4.out
      case measure => simp [intOf]; omega
    · have hk1 : k = L.length := by omega
      subst hk1
      have hlt1 : ((L.length : Int) < (L.length : Int)) = False := eq_false (by omega)
      go_wp2_with fail
      go_ret
      exact ⟨⟨_, rfl, Kd.R_lower HO.out HB1.out.size⟩, below_then HB1.out HB1.out.size HB.out⟩
end Go.Proofs.Ytbeefbhoccdicaa.KernM
