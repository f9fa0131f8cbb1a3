/- A vertex's edges are checked: walked. -/
import Derived.Test.YtbeefbhoccdicaaFindG
import Derived.BigQuiet
namespace Go.Proofs.Ytbeefbhoccdicaa.EdgesG
open Go.RowKit Go.Proofs.YtbeefbhoccdicaaW.PrintWords Go.Proofs.YtbeefbhoccdicaaW.PrintLast Go.Proofs.YtbeefbhoccdicaaW.PrintMore Go.Proofs.Ytbeefbhoccdicaa.QGraphReads Go.Proofs.Ytbeefbhoccdicaa.WireNum Go.Proofs.Ytbeefbhoccdicaa.PutG Go.Proofs.Ytbeefbhoccdicaa.FindG
set_option linter.unusedVariables false

/-- Where the edge at a place ends. -/
def toAt (es : List S67) (m : Nat) : Int := (es.getD m z67).f0
/-- The edge at a place may not be. -/
def edgeBad (l : List S53) (es : List S67) (m : Nat) : Bool := !(isR l (toAt es m)) || (decide (0 < m) && decide (toAt es m ≤ toAt es (m - 1)))
def EdgesOk (l : List S53) (es : List S67) : Prop := ∀ m, m < es.length → edgeBad l es m = false
/-- A bool that tells a fact. -/
def Tells (b : Bool) (p : Prop) : Prop := b = true ↔ p

set_option maxHeartbeats 4000000 in
set_option maxRecDepth 100000 in
theorem edges_calls (w : World) (l : List S53) (a1 a2 : Int) (es : List S67) (A A2 : Option Addr) (c c2 : Nat) (hr : Kd.C k53 w A l.length l) (hr2 : Kd.C k67 w A2 es.length es) (hg : Grows l) (hn : l.length ≤ 256) :
    Calls Try.prog 73 #[.agg #[.slice A l.length c], .agg #[.int .i64 a1, .int .i64 a2, .slice A2 es.length c2]] w fun e w' => (∃ b, e = .returned (.bool b) ∧ Tells b (EdgesOk l es)) ∧ Below w.heap.size w w' := by
  have hmax : es.length ≤ 9223372036854775807 := hr2.2.1
  generalize hw2 : (w.alloc (.cells #[.slice A l.length c] 24)).alloc (.cells #[.int .i64 a1, .int .i64 a2, .slice A2 es.length c2] 53) = w2
  have hz2 : w2.heap.size = w.heap.size + 2 := by rw [← hw2, World.size_alloc, World.size_alloc]
  have hbx1 : w2.heap[w.heap.size]? = some (.cells #[.slice A l.length c] 24 (0, 0)) := by rw [← hw2]; exact blk_alloc (blk_new w _) _
  have hbx2 : w2.heap[w.heap.size + 1]? = some (.cells #[.int .i64 a1, .int .i64 a2, .slice A2 es.length c2] 53 (0, 0)) := by
    have h := blk_new (w.alloc (.cells #[.slice A l.length c] 24)) (.cells #[.int .i64 a1, .int .i64 a2, .slice A2 es.length c2] 53)
    rw [World.size_alloc, hw2] at h
    exact h
  have hb2 : Below w.heap.size w w2 := by rw [← hw2]; exact below_alloc (below_alloc (Below.refl _ _) _) _
  have HR := Aside0.mk (Kd.C_below hr hb2)
  have HR2 := Aside0.mk (Kd.C_below hr2 hb2)
  have HW2 := Aside0.mk hb2
  have BX1 := Aside0.mk hbx1
  have BX2 := Aside0.mk hbx2
  have hc2 : w2.cell? ⟨w.heap.size + 1, 2, none⟩ = some (.slice A2 es.length c2) := (blk_cell hbx2 2).trans rfl
  clear hr hr2 hbx1 hbx2 hb2
  go_enter Try.func73, Try.ntmps73
  go_wp2_with fail
  go_loopw [12] (fun v12 wr => ∃ k : Nat, v12 = .int .i64 (k : Int) ∧ k ≤ es.length ∧ Aside0 (∀ m, m < k → edgeBad l es m = false) ∧ Aside0 (Below w2.heap.size w2 wr)) (fun v12 _ => (es.length - (intOf v12)).toNat)
  case atStart => exact ⟨0, rfl, Nat.zero_le _, ⟨fun m hm => by omega⟩, ⟨Below.refl _ _⟩⟩
  case round =>
    clear hw2
    obtain ⟨k, rfl, hk, HP, HB⟩ := hrel
    rcases Nat.lt_or_ge k es.length with hlt | hge
    · have hlt1 : ((k : Int) < (es.length : Int)) = True := eq_true (by omega)
      obtain ⟨ad, hA, hx0, hx1⟩ := at_T67 HR2.out (k : Int) (by omega) (by omega)
      subst hA
      replace hx0 := (HB.out.cell (World.block_lt_of_cell? _ _ hx0)).trans hx0
      replace hx1 := (HB.out.cell (World.block_lt_of_cell? _ _ hx1)).trans hx1
      rw [Int.toNat_natCast] at hx0 hx1
      have hto : toAt es k = (rd_T67 es (k : Int)).f0 := rfl
      generalize rd_T67 es (k : Int) = ed at *
      have hb1 : wr.cell? ⟨w.heap.size, 0, none⟩ = some (.slice A l.length c) := (blk_cell (blk_below BX1.out HB.out) 0).trans rfl
      have hsz : w.heap.size + 2 ≤ wr.heap.size := by have := HB.out.size; omega
      have hne1 : (w.heap.size = wr.heap.size) = False := eq_false (by omega)
      have hne2 : (w.heap.size + 1 = wr.heap.size) = False := eq_false (by omega)
      have hne3 : w.heap.size < wr.heap.size := by omega
      go_wp2_with fail
      refine (find_calls _ l ed.f0 A c (Kd.C_alloc (Kd.C_below HR.out HB.out) _) hg hn).mono ?_
      rintro e w4 ⟨rfl, hB4⟩
      have hx2 := (blk_cell (blk_below (blk_new wr (.cells #[.int .i64 ed.f0, .int .i64 ed.f1] 67)) hB4) 0).trans rfl
      have HB4 := Aside0.mk (below_then (HB.out.alloc HB.out.size _) (by rw [World.size_alloc]; omega) hB4)
      have hb3 : w4.cell? ⟨w.heap.size + 1, 2, none⟩ = some (.slice (some ad) es.length c2) := (blk_cell (blk_below BX2.out HB4.out) 2).trans rfl
      replace hx2 : w4.cell? ⟨wr.heap.size, 0, none⟩ = some (.int .i64 ed.f0) := hx2
      clear hB4 hx0 hx1 hb1
      cases hf : isR l ed.f0
      · go_wp2_with fail
        go_quiet (fail)
        go_wp2_with fail
        go_ret
        refine ⟨⟨false, rfl, ?_⟩, below_then HW2.out (by omega) (pw_below_drewN HB4.out _)⟩
        refine ⟨fun h => (by cases h), fun h => ?_⟩
        have h1 := h k hlt
        rw [edgeBad, hto, hf] at h1
        cases h1
      · rcases Nat.eq_zero_or_pos k with hk0 | hkp
        · subst hk0
          go_wp2_with fail
          go_quiet (fail)
          go_wp2_with fail
          go_roundw
          case rel =>
            refine ⟨1, by go_num, by omega, ⟨?_⟩, ⟨pw_below_drewN HB4.out _⟩⟩
            intro m hm
            obtain rfl : m = 0 := by omega
            rw [edgeBad, hto, hf]
            rfl
          case measure => simp [intOf]; omega
        · obtain ⟨q, hq⟩ : ∃ q, k = q + 1 := ⟨k - 1, by omega⟩
          have hkq : (k : Int) - 1 = (q : Int) := by omega
          have hkp1 : ((0 : Int) < (k : Int)) = True := eq_true (by omega)
          have hlq : ((q : Int) < (es.length : Int)) = True := eq_true (by omega)
          obtain ⟨ad', hA', hx3, hx4⟩ := at_T67 HR2.out (q : Int) (by omega) (by omega)
          injection hA' with hA'
          subst hA'
          replace hx3 := (HB4.out.cell (World.block_lt_of_cell? _ _ hx3)).trans hx3
          replace hx4 := (HB4.out.cell (World.block_lt_of_cell? _ _ hx4)).trans hx4
          rw [Int.toNat_natCast] at hx3 hx4
          have htq : toAt es q = (rd_T67 es (q : Int)).f0 := rfl
          generalize rd_T67 es (q : Int) = eq at *
          go_wp2_with fail
          go_quiet (fail)
          go_wp2_with fail
          · have hle : ed.f0 ≤ eq.f0 := by assumption
            go_ret
            refine ⟨⟨false, rfl, ?_⟩, below_then HW2.out (by omega) (pw_below_drewN HB4.out _)⟩
            refine ⟨fun h => (by cases h), fun h => ?_⟩
            have h1 := h (q + 1) (by omega)
            rw [edgeBad, ← hq, hto, hq, Nat.add_sub_cancel, htq, decide_eq_true hle] at h1
            simp at h1
          · have hgt : eq.f0 < ed.f0 := by assumption
            go_roundw
            case rel =>
              refine ⟨k + 1, by rw [hq]; go_num, by omega, ⟨?_⟩, ⟨pw_below_drewN HB4.out _⟩⟩
              intro m hm
              by_cases hmk : m = k
              · subst hmk
                rw [edgeBad, hto, hf, hq, Nat.add_sub_cancel, htq, decide_eq_false (show ¬ ed.f0 ≤ eq.f0 by omega)]
                simp
              · exact HP.out m (by omega)
            case measure => simp [intOf]; omega
    · have hk1 : k = es.length := by omega
      subst hk1
      clear hge
      go_wp2_with fail
      go_ret
      refine ⟨⟨true, rfl, ?_⟩, below_then HW2.out (by omega) HB.out⟩
      exact ⟨fun _ => HP.out, fun _ => rfl⟩
end Go.Proofs.Ytbeefbhoccdicaa.EdgesG
