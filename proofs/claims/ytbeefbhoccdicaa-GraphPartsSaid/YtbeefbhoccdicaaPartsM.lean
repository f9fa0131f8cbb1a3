/- GraphParts: the iterator over a partition, what it gives, in plain words, what stands between the steps of the law. -/
import Derived.RangeFuncNested
import Derived.RangeFuncBound
import Derived.RangeFuncCalls
import Derived.RangeFuncLeaves
import Derived.RangeFuncWrites
import Derived.Shelf.Abstract
import Derived.Shelf.RegionOpen
import Derived.WalkKit
import Derived.OwnWalkIn
import Derived.TacticsInMore
import Derived.LoopNIn
import Derived.LoopIn
import Derived.Stop.RegionWithIn
import Derived.Test.YtbeefbhoccdicaaAllG
import Derived.Test.YtbeefbhoccdicaaPartG
import Derived.RangeFuncBox
import Derived.Maps.AppendAt
import Derived.Sort.QuietIn
import Derived.Sort.BigQuietIn
import Derived.Test.YtbeefbhoccdicaaAwakeG
import Derived.Test.YtbeefbhoccdicaaRefCheck
import Derived.Test.YtbeefbhoccdicaaClG
namespace Go.Proofs.Ytbeefbhoccdicaa.OfG
open Go.RowKit Go.Shelf Go.Proofs.YtbeefbhoccdicaaW.PrintWords Go.Proofs.YtbeefbhoccdicaaW.PrintLast Go.Proofs.YtbeefbhoccdicaaW.PrintMore Go.Proofs.Ytbeefbhoccdicaa.QGraphReads Go.Proofs.Ytbeefbhoccdicaa.WireNum Go.Proofs.Ytbeefbhoccdicaa.PutG Go.Proofs.Ytbeefbhoccdicaa.FindG Go.Proofs.Ytbeefbhoccdicaa.EdgesG Go.Proofs.Ytbeefbhoccdicaa.AllG Go.Proofs.Ytbeefbhoccdicaa.PartG Go.Proofs.Ytbeefbhoccdicaa.CloneG Go.Proofs.Ytbeefbhoccdicaa.ClG
attribute [local go_sem] Oper.semAt_some
set_option linter.unusedVariables false
set_option linter.unusedSimpArgs false

/-- A vertex as it lies in a row: its edges' slice as a value. -/
structure V3 where
  id : Int
  val : Int
  A : Option Addr
  n : Nat
  c : Nat
def zv : V3 := ⟨0, 0, none, 0, 0⟩
def rv (x : V3) : List Value := [.int .i64 x.id, .int .i64 x.val, .slice x.A x.n x.c]
def encV (x : V3) : Array Value := #[.agg #[.int .i64 x.id, .int .i64 x.val, .slice x.A x.n x.c]]
/-- The vertices of a partition. -/
def ofP (vs : List V3) (p parts : Int) : List V3 := vs.filter fun x => PartG.part x.id parts == p

theorem at_raw {w : World} {A : Option Addr} {vs : List V3} (h : Kd.C (Kd.raw 3) w A vs.length (vs.map rv)) (k : Nat) (hk : k < vs.length) : ∃ ad, A = some ad ∧ w.cell? (ad.add (k * 3)) = some (.int .i64 (vs.getD k zv).id) ∧ w.cell? ⟨(ad.add (k * 3)).block, (ad.add (k * 3)).off + 1, none⟩ = some (.int .i64 (vs.getD k zv).val) ∧ w.cell? ⟨(ad.add (k * 3)).block, (ad.add (k * 3)).off + 2, none⟩ = some (.slice (vs.getD k zv).A (vs.getD k zv).n (vs.getD k zv).c) := by
  obtain ⟨ad, c, e, _, ⟨hK, _⟩, hc0⟩ := Kd.C_get h (rv zv) (k : Int) (by omega) (by omega)
  have hc : ∀ j u, c[j]? = some u → w.cell? (ad.add (k * 3 + j)) = some u := hc0
  have hr : (vs.map rv).getD k (rv zv) = rv (vs.getD k zv) := by
    rw [List.getD_eq_getElem?_getD, List.getD_eq_getElem?_getD, List.getElem?_map, List.getElem?_eq_getElem hk]; rfl
  have hK' : c = rv (vs.getD k zv) := by rw [← hr]; exact hK
  subst hK'
  exact ⟨ad, e, hc 0 _ rfl, by rw [← add_field _ _ 1 (by omega)]; exact hc 1 _ rfl, by rw [← add_field _ _ 2 (by omega)]; exact hc 2 _ rfl⟩
theorem ofP_snoc (l : List V3) (x : V3) (p parts : Int) : ofP (l ++ [x]) p parts = ofP l p parts ++ (if (PartG.part x.id parts == p) = true then [x] else []) := by
  unfold ofP
  rw [List.filter_append]
  congr 1
  by_cases h : (PartG.part x.id parts == p) = true
  · rw [if_pos h]; simp [List.filter, h]
  · rw [if_neg h]; simp [List.filter, h]
theorem ofP_pre (l : List V3) (k : Nat) (p parts : Int) : ofP (l.take k) p parts <+: ofP l p parts := by
  have h : ofP l p parts = ofP (l.take k) p parts ++ ofP (l.drop k) p parts := by unfold ofP; rw [← List.filter_append, List.take_append_drop]
  rw [h]
  exact List.prefix_append _ _
theorem drew_grown (w : World) : w.grownBy w.drew none := ⟨rfl, rfl, rfl, Nat.le_refl _, fun _ _ _ => rfl⟩

theorem of_in (n : Nat) (A : Option Addr) (m c : Nat) (p parts : Int) (w : World) :
    CallsIn Fence.wide n Try.prog 87 #[.agg #[.slice A m c], .int .i64 p, .int .i64 parts] w fun e w' => e = .returned (.func (.func 117) #[] #[.pointer (some ⟨w.heap.size, 0, none⟩), .pointer (some ⟨w.heap.size + 1 + 1, 0, none⟩), .pointer (some ⟨w.heap.size + 1, 0, none⟩)]) ∧ w' = ((w.alloc (.cells #[.slice A m c] 24)).alloc (.cells #[.int .i64 p] 3)).alloc (.cells #[.int .i64 parts] 3) := by
  refine callsIn_of_wp Try.func87 rfl trivial ?_ rfl
  simp only [Try.ntmps87, List.size_toArray, List.length_cons, List.length_nil, Nat.reduceAdd, Nat.reduceSub, Array.replicate_succ, Array.replicate_zero, List.push_toArray, List.append_toArray, List.nil_append, List.cons_append]
  gi_wp2
  go_ret
  exact ⟨rfl, rfl⟩

set_option maxRecDepth 100000 in
set_option maxHeartbeats 8000000 in
theorem of1_in (n : Nat) (hn : 1 ≤ n) (l Bs Bq Bp : Nat) (w0 : World) (vs : List V3) (A : Option Addr) (c : Nat) (p parts : Int) (hr : Kd.C (Kd.raw 3) w0 A vs.length (vs.map rv)) (J Jx : List V3 → World → Prop) (W : World)
    (hJ : AbidesFrom W.heap.size J)
    (hY : ∀ pre x W1, J pre W1 → pre.length < (ofP vs p parts).length → YieldAt Fence.wide (n - 1) Try.prog l (encV x) W1 fun e W' =>
      (e = .returned (.bool true) ∧ J (pre ++ [x]) W' ∧ KpT (fun t => t = 3) w0.heap.size W1 W') ∨ (e = .returned (.bool false) ∧ Jx (pre ++ [x]) W'))
    (hB : Below w0.heap.size w0 W) (hBs : W.cell? ⟨Bs, 0, none⟩ = some (.slice A vs.length c)) (hBq : W.heap[Bq]? = some (.cells #[.int .i64 parts] 3 (0, 0))) (hBp : W.heap[Bp]? = some (.cells #[.int .i64 p] 3 (0, 0))) (h0 : J [] W) :
    CallsIn Fence.wide n Try.prog 117 #[.func (.yield l) #[] #[], .pointer (some ⟨Bs, 0, none⟩), .pointer (some ⟨Bq, 0, none⟩), .pointer (some ⟨Bp, 0, none⟩)] W fun e W' => (∃ v, e = .returned v) ∧
      ((∃ ys, ys = ofP vs p parts ∧ J ys W') ∨ (∃ pre, pre <+: ofP vs p parts ∧ Jx pre W')) := by
  have hmax : vs.length ≤ 9223372036854775807 := by have := hr.2.1; exact this
  have HR := Aside0.mk hr
  have HB := Aside0.mk hB
  have HJ0 := Aside0.mk h0
  have HQ := Aside0.mk hBq
  have HP := Aside0.mk hBp
  have hal : ∀ (pre : List V3) (W1 : World) (o : Obj), J pre W1 → J pre (W1.alloc o) := fun pre W1 o h => hJ pre W1 _ none h (World.grownBy_alloc W1 o none) (fun r e => by cases e)
  have hdr : ∀ (pre : List V3) (W1 : World), J pre W1 → J pre W1.drew := fun pre W1 h => hJ pre W1 _ none h (drew_grown W1) (fun r e => by cases e)
  have HAL := Aside0.mk hal
  have HDR := Aside0.mk hdr
  have HYY := Aside0.mk hY
  clear hr hB h0 hJ hal hdr hY hBq hBp
  refine callsIn_of_wp Try.func117 rfl trivial ?_ rfl
  simp only [Try.ntmps117, List.size_toArray, List.length_cons, List.length_nil, Nat.reduceAdd, Nat.reduceSub, Array.replicate_succ, Array.replicate_zero, List.push_toArray, List.append_toArray, List.nil_append, List.cons_append]
  gi_wp2
  gi_loopw [10] (fun v10 wr => ∃ k : Nat, v10 = .int .i64 (k : Int) ∧ k ≤ vs.length ∧ Aside0 (J (ofP (vs.take k) p parts) wr) ∧ Aside0 (Below w0.heap.size w0 wr) ∧ Aside0 (wr.heap[Bq]? = some (.cells #[.int .i64 parts] 3 (0, 0))) ∧ Aside0 (wr.heap[Bp]? = some (.cells #[.int .i64 p] 3 (0, 0)))) (fun v10 _ => (vs.length - (intOf v10)).toNat)
  case atStart => exact ⟨0, rfl, Nat.zero_le _, HJ0, HB, HQ, HP⟩
  case round =>
    obtain ⟨k, rfl, hk, HJr, HBr, HQr, HPr⟩ := hrel
    rcases Nat.lt_or_ge k vs.length with hlt | hge
    · have hlt1 : ((k : Int) < (vs.length : Int)) = True := eq_true (by omega)
      obtain ⟨ad, hA, hx0, hx1, hx2⟩ := at_raw HR.out k hlt
      subst hA
      replace hx0 := (HBr.out.cell (World.block_lt_of_cell? _ _ hx0)).trans hx0
      replace hx1 := (HBr.out.cell (World.block_lt_of_cell? _ _ hx1)).trans hx1
      replace hx2 := (HBr.out.cell (World.block_lt_of_cell? _ _ hx2)).trans hx2
      obtain ⟨x, hx⟩ : ∃ x, vs.getD k zv = x := ⟨_, rfl⟩
      rw [hx] at hx0 hx1 hx2
      have HX := Aside0.mk hx
      have hsz0 : w0.heap.size ≤ wr.heap.size := HBr.out.size
      have hcq : wr.cell? ⟨Bq, 0, none⟩ = some (.int .i64 parts) := (blk_cell HQr.out 0).trans rfl
      have hcp : wr.cell? ⟨Bp, 0, none⟩ = some (.int .i64 p) := (blk_cell HPr.out 0).trans rfl
      have hneq : (Bq = wr.heap.size) = False := eq_false (by have := blk_lt HQr.out; omega)
      have hnep : (Bp = wr.heap.size) = False := eq_false (by have := blk_lt HPr.out; omega)
      have hnqlt : Bq < wr.heap.size := blk_lt HQr.out
      have hnplt : Bp < wr.heap.size := blk_lt HPr.out
      clear hx
      by_cases hpp : (PartG.part x.id parts == p) = true
      · obtain ⟨pp, hpe⟩ : ∃ pp, PartG.part x.id parts = pp := ⟨_, rfl⟩
        rw [hpe] at hpp
        have HPE := Aside0.mk hpe
        clear hpe
        gi_wp2
        generalize hw4 : wr.alloc (.cells #[.int .i64 x.id, .int .i64 x.val, .slice x.A x.n x.c] 53) = w4
        have hbx : w4.heap[wr.heap.size]? = some (.cells #[.int .i64 x.id, .int .i64 x.val, .slice x.A x.n x.c] 53 (0, 0)) := by rw [← hw4]; exact blk_new wr _
        have hJ4 : J (ofP (vs.take k) p parts) w4 := by rw [← hw4]; exact HAL.out _ _ _ HJr.out
        have hB4 : Below w0.heap.size w0 w4 := by rw [← hw4]; exact HBr.out.alloc hsz0 _
        have hQ4 : w4.heap[Bq]? = some (.cells #[.int .i64 parts] 3 (0, 0)) := by rw [← hw4]; exact blk_alloc HQr.out _
        have hP4 : w4.heap[Bp]? = some (.cells #[.int .i64 p] 3 (0, 0)) := by rw [← hw4]; exact blk_alloc HPr.out _
        have HB4 := Aside0.mk (below_drew1 hB4)
        have HQ4 := Aside0.mk (blk_drew hQ4)
        have HP4 := Aside0.mk (blk_drew hP4)
        have HJ4 := Aside0.mk (HDR.out _ _ hJ4)
        have hz0 : w4.cell? ⟨wr.heap.size, 0, none⟩ = some (.int .i64 x.id) := (blk_cell hbx 0).trans rfl
        have hz1 : w4.cell? ⟨wr.heap.size, 1, none⟩ = some (.int .i64 x.val) := (blk_cell hbx 1).trans rfl
        have hz2 : w4.cell? ⟨wr.heap.size, 2, none⟩ = some (.slice x.A x.n x.c) := (blk_cell hbx 2).trans rfl
        replace hcq : w4.cell? ⟨Bq, 0, none⟩ = some (.int .i64 parts) := (blk_cell hQ4 0).trans rfl
        replace hcp : w4.cell? ⟨Bp, 0, none⟩ = some (.int .i64 p) := (blk_cell hP4 0).trans rfl
        obtain ⟨fn, tmps, assign, body, hy, hRd⟩ := HYY.out _ x w4.drew HJ4.out (by
          have h := (ofP_pre vs (k + 1) p parts).length_le
          rw [take_one vs k zv hlt, ofP_snoc, HX.out, if_pos (by rw [HPE.out]; exact hpp), List.length_append] at h
          simp only [List.length_cons, List.length_nil] at h
          omega)
        dsimp only [encV] at hy
        have hRd2 : RoundIn Fence.wide (n - 1) Try.prog l fn tmps assign body w4.drew fun e W' => ∃ b, e = .returned (.bool b) ∧ Aside0 ((b = true ∧ J (ofP (vs.take k) p parts ++ [x]) W' ∧ KpT (fun t => t = 3) w0.heap.size w4.drew W') ∨ (b = false ∧ Jx (ofP (vs.take k) p parts ++ [x]) W')) := by
          refine hRd.mono ?_
          rintro e W3 (⟨rfl, h1, h2⟩ | ⟨rfl, h1⟩)
          · exact ⟨true, rfl, ⟨.inl ⟨rfl, h1, h2⟩⟩⟩
          · exact ⟨false, rfl, ⟨.inr ⟨rfl, h1⟩⟩⟩
        clear hRd
        clear hbx hJ4 hB4 hQ4 hP4 hw4 HJr HBr HQr HPr hneq hnep hnqlt hnplt hx0 hx1 hx2
        gi_region_with first | (refine ⟨trivial, (callsIn_wide.2 (part_pure w4.drew x.id parts)).mono ?_⟩; rintro e w' ⟨rfl, rfl⟩; rw [HPE.out]) | (refine hRd2.mono ?_; rintro e W3 ⟨b, rfl, HW3⟩)
        all_goals clear hRd2 hy
        all_goals cases b
        all_goals first
          | (have HG := Aside0.mk (HW3.out.resolve_left (fun h => by cases h.1)).2
             clear HW3
             gi_wp2
             refine bodyPost_ret (results_none rfl _ _ _) rfl ?_
             refine ⟨⟨_, rfl⟩, .inr ⟨_, ?_, HG.out⟩⟩
             have h := ofP_pre vs (k + 1) p parts
             rw [take_one vs k zv hlt, ofP_snoc, HX.out, if_pos (by rw [HPE.out]; exact hpp)] at h
             exact h)
          | (have HG := Aside0.mk (HW3.out.resolve_right (fun h => by cases h.1)).2
             clear HW3
             gi_wp2
             go_roundw
             case rel =>
               refine ⟨k + 1, by go_num, by omega, ⟨?_⟩, ⟨HB4.out.trans HG.out.2.1⟩, ⟨HG.out.2.2 _ _ _ rfl HQ4.out⟩, ⟨HG.out.2.2 _ _ _ rfl HP4.out⟩⟩
               rw [take_one vs k zv hlt, ofP_snoc, HX.out, if_pos (by rw [HPE.out]; exact hpp)]
               exact HG.out.1
             case measure => simp [intOf]; omega)
      · obtain ⟨pp, hpe⟩ : ∃ pp, PartG.part x.id parts = pp := ⟨_, rfl⟩
        rw [hpe] at hpp
        have hpp1 : (pp == p) = false := Bool.eq_false_iff.2 hpp
        have hpp2 : (pp = p) = False := eq_false (by simpa using hpp)
        have hpp3 : decide (pp = p) = false := decide_eq_false (by simpa using hpp)
        have HPE := Aside0.mk hpe
        have HPP := Aside0.mk hpp
        clear hpe hpp
        gi_wp2
        generalize hw4 : wr.alloc (.cells #[.int .i64 x.id, .int .i64 x.val, .slice x.A x.n x.c] 53) = w4
        have hbx : w4.heap[wr.heap.size]? = some (.cells #[.int .i64 x.id, .int .i64 x.val, .slice x.A x.n x.c] 53 (0, 0)) := by rw [← hw4]; exact blk_new wr _
        have hJ4 : J (ofP (vs.take k) p parts) w4 := by rw [← hw4]; exact HAL.out _ _ _ HJr.out
        have hB4 : Below w0.heap.size w0 w4 := by rw [← hw4]; exact HBr.out.alloc hsz0 _
        have hQ4 : w4.heap[Bq]? = some (.cells #[.int .i64 parts] 3 (0, 0)) := by rw [← hw4]; exact blk_alloc HQr.out _
        have hP4 : w4.heap[Bp]? = some (.cells #[.int .i64 p] 3 (0, 0)) := by rw [← hw4]; exact blk_alloc HPr.out _
        have HB4 := Aside0.mk (below_drew1 hB4)
        have HQ4 := Aside0.mk (blk_drew hQ4)
        have HP4 := Aside0.mk (blk_drew hP4)
        have HJ4 := Aside0.mk (HDR.out _ _ hJ4)
        have hz0 : w4.cell? ⟨wr.heap.size, 0, none⟩ = some (.int .i64 x.id) := (blk_cell hbx 0).trans rfl
        replace hcq : w4.cell? ⟨Bq, 0, none⟩ = some (.int .i64 parts) := (blk_cell hQ4 0).trans rfl
        replace hcp : w4.cell? ⟨Bp, 0, none⟩ = some (.int .i64 p) := (blk_cell hP4 0).trans rfl
        clear hbx hJ4 hB4 hQ4 hP4 hw4 HJr HBr HQr HPr hneq hnep hnqlt hnplt hx0 hx1 hx2
        first | (gi_region_with first | (refine ⟨fun _ h => (by cases h), ?_⟩) | (refine ⟨trivial, (callsIn_wide.2 (part_pure w4.drew x.id parts)).mono ?_⟩; rintro e w' ⟨rfl, rfl⟩; rw [HPE.out])) | fail "no"
        all_goals
          gi_wp2
          go_roundw
          case rel =>
            refine ⟨k + 1, by go_num, by omega, ⟨?_⟩, HB4, HQ4, HP4⟩
            rw [take_one vs k zv hlt, ofP_snoc, HX.out, if_neg (by rw [HPE.out]; exact HPP.out), List.append_nil]
            exact HJ4.out
          case measure => simp [intOf]; omega
    · obtain rfl : k = vs.length := by omega
      gi_wp2
      go_end0
      have h := HJr.out
      rw [List.take_length] at h
      exact ⟨⟨_, rfl⟩, .inl ⟨_, rfl, h⟩⟩
end Go.Proofs.Ytbeefbhoccdicaa.OfG

namespace Go.Proofs.Ytbeefbhoccdicaa.OfL
open Go.RowKit Go.Shelf Go.Proofs.YtbeefbhoccdicaaW.PrintWords Go.Proofs.YtbeefbhoccdicaaW.PrintLast Go.Proofs.YtbeefbhoccdicaaW.PrintMore Go.Proofs.Ytbeefbhoccdicaa.QGraphReads Go.Proofs.Ytbeefbhoccdicaa.WireNum Go.Proofs.Ytbeefbhoccdicaa.PutG Go.Proofs.Ytbeefbhoccdicaa.FindG Go.Proofs.Ytbeefbhoccdicaa.EdgesG Go.Proofs.Ytbeefbhoccdicaa.AllG Go.Proofs.Ytbeefbhoccdicaa.PartG Go.Proofs.Ytbeefbhoccdicaa.CloneG Go.Proofs.Ytbeefbhoccdicaa.ClG Go.Proofs.Ytbeefbhoccdicaa.OfG
attribute [local go_sem] Oper.semAt_some
set_option linter.unusedVariables false
set_option linter.unusedSimpArgs false

theorem of_stops (n : Nat) (hn : 1 ≤ n) (Bs Bq Bp : Nat) (w0 w : World) (vs : List V3) (A : Option Addr) (c : Nat) (p parts : Int) (hr : Kd.C (Kd.raw 3) w0 A vs.length (vs.map rv)) (hB : Below w0.heap.size w0 w)
    (hBs : w.cell? ⟨Bs, 0, none⟩ = some (.slice A vs.length c)) (hBq : w.heap[Bq]? = some (.cells #[.int .i64 parts] 3 (0, 0))) (hBp : w.heap[Bp]? = some (.cells #[.int .i64 p] 3 (0, 0))) :
    SeqStopsK Fence.wide n Try.prog 117 #[.pointer (some ⟨Bs, 0, none⟩), .pointer (some ⟨Bq, 0, none⟩), .pointer (some ⟨Bp, 0, none⟩)] encV (KpT (fun t => t = 3) w0.heap.size) (fun ys => ys = ofP vs p parts) (fun pre => pre <+: ofP vs p parts) (ofP vs p parts).length w := fun l J Jx W hW hJ _ hY h0 =>
  of1_in n hn l Bs Bq Bp w0 vs A c p parts hr J Jx W hJ hY (below_then hB hB.size hW) ((hW.cell (World.block_lt_of_cell? _ _ hBs)).trans hBs) (blk_below hBq hW) (blk_below hBp hW) h0

theorem info53 : (Try.prog.info? 53).map (fun i => (i.zero, i.size, i.bytes)) = some (some (.agg #[.int .i64 0, .int .i64 0, .slice none 0 0]), 3, 40) := by kernel_rfl

theorem cells_three (w : World) (x : V3) : ∀ j u, (rv x)[j]? = some u → (w.alloc (.cells #[.int .i64 x.id, .int .i64 x.val, .slice x.A x.n x.c] 53)).cell? ((⟨w.heap.size, 0, none⟩ : Addr).add j) = some u := by
  intro j u hj
  have h := blk_cell (blk_new w (.cells #[.int .i64 x.id, .int .i64 x.val, .slice x.A x.n x.c] 53)) j
  rw [show ((⟨w.heap.size, 0, none⟩ : Addr).add j) = ⟨w.heap.size, j, none⟩ from by simp [Addr.add]; omega]
  refine h.trans ?_
  have : (#[.int .i64 x.id, .int .i64 x.val, .slice x.A x.n x.c] : Array Value)[j]? = (rv x)[j]? := by rw [rv]; simp
  rw [this]; exact hj

theorem one_rv (x : V3) : ∀ u ∈ rv x, u.oneCell' = true := one3 rfl

set_option maxRecDepth 100000 in
set_option maxHeartbeats 4000000 in
theorem ofl_in (n : Nat) (hn : 3 ≤ n) (w : World) (vs : List V3) (A : Option Addr) (c : Nat) (p parts : Int) (hr : Kd.C (Kd.raw 3) w A vs.length (vs.map rv)) (hl : vs.length * 40 ≤ 140737488355328) :
    CallsIn Fence.wide n Try.prog 35 #[.agg #[.slice A vs.length c], .int .i64 p, .int .i64 parts] w fun e w' => ∃ v, e = .returned v ∧ w'.ownsRow w.heap.size 53 3 v (ofP vs p parts).length ((ofP vs p parts).flatMap rv) ∧ Below w.heap.size w w' := by
  have h1 : 1 ≤ n := by omega
  obtain ⟨i0, hi, hi0, hi1, hi2⟩ := info_parts info53
  have HR := Aside0.mk hr
  clear hr
  refine callsIn_of_wp_marks Try.func35 rfl trivial ?_ rfl
  simp only [Try.ntmps35, List.size_toArray, List.length_cons, List.length_nil, Nat.reduceAdd, Nat.reduceSub, Array.replicate_succ, Array.replicate_zero, List.push_toArray, List.append_toArray, List.nil_append, List.cons_append]
  gi_wp2_with (refine ⟨trivial, ?_⟩; gi_at_call 87; refine (of_in (n - 1) _ _ _ _ _ _).mono ?_; rintro e w' ⟨rfl, rfl⟩)
  generalize hw1 : ((w.alloc (.cells #[.slice A vs.length c] 24)).alloc (.cells #[] 53)).alloc (.cells #[.slice (some ⟨w.heap.size + 1, 0, none⟩) 0 0] 22) = w1
  have hs1 : w1.heap.size = w.heap.size + 1 + 1 + 1 := by rw [← hw1]; simp
  have hb1 : Below w.heap.size w w1 := by rw [← hw1]; exact below_alloc (below_alloc (below_alloc (Below.refl _ _) _) _) _
  have bO : Boxed w1 (w.heap.size + 1 + 1) 22 (.slice (some ⟨w.heap.size + 1, 0, none⟩) 0 0) := by
    have h := Boxed.new ((w.alloc (.cells #[.slice A vs.length c] 24)).alloc (.cells #[] 53)) 22 (.slice (some ⟨w.heap.size + 1, 0, none⟩) 0 0)
    rw [World.size_alloc, World.size_alloc] at h
    rw [← hw1]; exact h
  have hO : w1.ownsRow w.heap.size 53 3 (.slice (some ⟨w.heap.size + 1, 0, none⟩) 0 0) 0 [] := by
    refine ⟨rfl, .inr ⟨w.heap.size + 1, 0, #[], rfl, by omega, ?_, Nat.le_refl _, by decide, rfl, rfl⟩⟩
    have h := blk_alloc (blk_new (w.alloc (.cells #[.slice A vs.length c] 24)) (.cells #[] 53)) (.cells #[.slice (some ⟨w.heap.size + 1, 0, none⟩) 0 0] 22)
    rw [World.size_alloc] at h
    rw [← hw1]; exact h
  generalize hw2 : ((w1.alloc (.cells #[.slice A vs.length c] 24)).alloc (.cells #[.int .i64 p] 3)).alloc (.cells #[.int .i64 parts] 3) = w2
  have hb2 : Below w.heap.size w w2 := by rw [← hw2]; exact ((hb1.alloc hb1.size _).alloc (by simp; omega) _).alloc (by simp; omega) _
  have hs2 : w2.heap.size = w1.heap.size + 3 := by rw [← hw2]; simp
  have hcs : w2.cell? ⟨w1.heap.size, 0, none⟩ = some (.slice A vs.length c) := by
    rw [← hw2]; exact (blk_cell (blk_alloc (blk_alloc (blk_new w1 _) _) _) 0).trans rfl
  have hcp : w2.heap[w1.heap.size + 1]? = some (.cells #[.int .i64 p] 3 (0, 0)) := by
    have h := blk_alloc (blk_new (w1.alloc (.cells #[.slice A vs.length c] 24)) (.cells #[.int .i64 p] 3)) (.cells #[.int .i64 parts] 3)
    rw [World.size_alloc] at h
    rw [← hw2]; exact h
  have hcq : w2.heap[w1.heap.size + 1 + 1]? = some (.cells #[.int .i64 parts] 3 (0, 0)) := by
    have h := blk_new ((w1.alloc (.cells #[.slice A vs.length c] 24)).alloc (.cells #[.int .i64 p] 3)) (.cells #[.int .i64 parts] 3)
    rw [World.size_alloc, World.size_alloc] at h
    rw [← hw2]; exact h
  have bO2 : Boxed w2 (w.heap.size + 1 + 1) 22 (.slice (some ⟨w.heap.size + 1, 0, none⟩) 0 0) := by
    rw [← hw2]; exact ((bO.alloc _).alloc _).alloc _
  have hO2 : w2.ownsRow w.heap.size 53 3 (.slice (some ⟨w.heap.size + 1, 0, none⟩) 0 0) 0 [] := by
    rw [← hw2]; exact ((hO.alloc _).alloc _).alloc _
  rw [hs1] at hcs hcp hcq hs2
  clear hw2 hw1 bO hO hb1
  have hpl : (ofP vs p parts).length ≤ vs.length := List.length_filter_le _ _
  have hmx : maxLen = 9223372036854775807 := rfl
  refine wpIn_rangeFunc_ownH (F := Fence.wide) rfl h1 (gf := 117) (lb := #[.pointer (some ⟨w.heap.size + 1 + 1 + 1, 0, none⟩), .pointer (some ⟨w.heap.size + 1 + 1 + 1 + 1 + 1, 0, none⟩), .pointer (some ⟨w.heap.size + 1 + 1 + 1 + 1, 0, none⟩)]) rfl trivial (enters_of Try.func117 (by kernel_rfl) rfl)
    (of_stops (n - 1) (by omega) (w.heap.size + 1 + 1 + 1) (w.heap.size + 1 + 1 + 1 + 1 + 1) (w.heap.size + 1 + 1 + 1 + 1) w w2 vs A c p parts HR.out hb2 hcs hcq hcp) kpT_t (kpT_b (by omega)) (Below.refl _ _) (fun _ => rfl)
    (fun pre W => (∃ v, Boxed W (w.heap.size + 1 + 1) 22 v ∧ W.ownsRow w.heap.size 53 3 v pre.length (pre.flatMap rv) ∧ True) ∧ Below w.heap.size w W)
    (fun _ _ _ => False)
    (OwnFrom.and (Own.from (holdsRow_own w.heap.size (w.heap.size + 1 + 1) 22 53 3 (fun pre : List V3 => pre.length) (fun pre : List V3 => pre.flatMap rv) (fun _ _ => True)) _) (ownFrom_below (Nat.le_refl _) (by omega)))
    (fun _ _ _ _ _ hs _ _ => hs)
    ⟨⟨_, bO2, hO2, trivial⟩, hb2⟩
    (fun x a' W => ∃ Bx, w.heap.size + 2 < Bx ∧ W.heap[Bx]? = some (.cells #[.int .i64 x.id, .int .i64 x.val, .slice x.A x.n x.c] 53 (0, 0)) ∧ a' = { tmps := #[.agg #[.slice A vs.length c], .int .i64 p, .int .i64 parts, .pointer (some ⟨w.heap.size, 0, none⟩), undef, undef, .slice none 0 0, .pointer (some ⟨w.heap.size + 1 + 1, 0, none⟩), .pointer (some ⟨Bx, 0, none⟩), .slice (some ⟨w.heap.size + 1, 0, none⟩) 0 0, .agg #[.slice A vs.length c], .int .i64 p, .int .i64 parts, .func (.func 117) #[] #[.pointer (some ⟨w.heap.size + 1 + 1 + 1, 0, none⟩), .pointer (some ⟨w.heap.size + 1 + 1 + 1 + 1 + 1, 0, none⟩), .pointer (some ⟨w.heap.size + 1 + 1 + 1 + 1, 0, none⟩)], .agg #[.int .i64 x.id, .int .i64 x.val, .slice x.A x.n x.c], undef, undef, undef, undef, undef], defers := [] })
    ?hAx ?assign ?body ?done ?stop
  case hAx =>
    rintro x a' _ X Y row ⟨Bx, h1, h2, h3⟩ hg hrow
    refine ⟨Bx, h1, ?_, h3⟩
    refine blk_grown h2 hg ?_
    intro h
    obtain ⟨_, o, ho, hc⟩ := hrow Bx h.symm
    rw [h2] at ho
    injection ho with ho
    rw [← ho] at hc
    cases hc
  case assign =>
    rintro l pre x W K hI hK
    simp only [encV]
    gi_wp2
    have hbase := W.heap.size
    obtain ⟨⟨v, hv, hrow, _⟩, hB⟩ := hI
    refine hK _ _ ((KeepsOthers.alloc _ _).from _) (kpT_alloc hB.size _) ⟨⟨v, hv.alloc _, hrow.alloc _, trivial⟩, hB.alloc hB.size _⟩ ⟨W.heap.size, ?_, blk_new W _, rfl⟩
    have := hv.lt
    omega
  case body =>
    rintro l pre x a' W hl ⟨r, hr⟩ ⟨⟨v, hv, hrow, _⟩, hB⟩ ⟨Bx, hBx, bX, rfl⟩ hlt
    have hlt2 : pre.length < (ofP vs p parts).length := hlt
    have hc := hv.cell
    have hz0 : W.cell? ⟨Bx, 0, none⟩ = some (.int .i64 x.id) := (blk_cell bX 0).trans rfl
    have hz1 : W.cell? ⟨Bx, 1, none⟩ = some (.int .i64 x.val) := (blk_cell bX 1).trans rfl
    have hz2 : W.cell? ⟨Bx, 2, none⟩ = some (.slice x.A x.n x.c) := (blk_cell bX 2).trans rfl
    have hl40 : (pre.length + 1) * 40 ≤ 140737488355328 := by omega
    have hl1 : pre.length + 1 ≤ maxLen := by rw [hmx]; omega
    clear hr hlt bX
    gi_wp2_with (gi_at_builtin; refine wpListIn_append_own _ rfl _ _ 22 rfl w.heap.size 53 i0 (.agg #[.int .i64 0, .int .i64 0, .slice none 0 0]) 3 40 Try.underlying22 hi hi0 hi1 hi2 rfl (by decide) _ _ _ rfl (hrow.alloc _) ⟨W.heap.size, 0, none⟩ 1 1 (rv x) rfl rfl (cells_three W x) (one_rv x) hl1 hl40 (by have := hB.size; simp; omega) ?_; intro v' w1 hown' hgrow _; obtain ⟨g', cap', rfl⟩ := ownsRow_succ hown'; obtain ⟨hv1, hv2, hr2, hk2, hb2⟩ := hv.appended (by decide) hrow hB.size (by omega) hown' hgrow; have hc1 := hv1.cell; have hf1 := hv1.frozen)
    refine ⟨hk2.from _, ⟨hb2, ?_⟩, ⟨⟨_, hv2, ?_, trivial⟩, hB.trans hb2⟩⟩
    · rintro i cs t rfl hi3
      refine blk_far (p := ⟨w.heap.size + 1 + 1, 0, none⟩) (blk_grown (blk_alloc hi3 _) hgrow ?_) ?_ _
      · intro h
        exact own_ne hrow hi3 (by decide) h
      · intro h
        have h3 : i = w.heap.size + 1 + 1 := h
        rw [h3, show W.heap[w.heap.size + 1 + 1]? = _ from hv] at hi3
        injection hi3 with hi3
        injection hi3 with _ hi3
        cases hi3
    · rw [List.length_append, List.flatMap_append]
      simpa using hr2
  case done =>
    rintro D ys W hD rfl ⟨⟨v, hv, hrow, _⟩, hB⟩ hK
    have hc := hv.cell
    gi_wp2
    refine ⟨by simp, .inl ⟨_, _, rfl, run_takeDeferred hK, ?_⟩⟩
    exact ⟨_, results_tmp rfl _ _ _, v, rfl, ownsRow_putObj hrow _ hK rfl, hB.trans (belowK_b (w := w) (Nat.le_refl _) W D _ _ (by omega) hK rfl rfl)⟩
  case stop =>
    rintro D c pre W _ _ h _
    exact h.elim
end Go.Proofs.Ytbeefbhoccdicaa.OfL

namespace Go.Proofs.Ytbeefbhoccdicaa.PlainO
open Go.RowKit Go.Shelf Go.Proofs.YtbeefbhoccdicaaW.PrintWords Go.Proofs.YtbeefbhoccdicaaW.PrintLast Go.Proofs.YtbeefbhoccdicaaW.PrintMore Go.Proofs.Ytbeefbhoccdicaa.QGraphReads Go.Proofs.Ytbeefbhoccdicaa.WireNum Go.Proofs.Ytbeefbhoccdicaa.PutG Go.Proofs.Ytbeefbhoccdicaa.FindG Go.Proofs.Ytbeefbhoccdicaa.EdgesG Go.Proofs.Ytbeefbhoccdicaa.AllG Go.Proofs.Ytbeefbhoccdicaa.PartG Go.Proofs.Ytbeefbhoccdicaa.CloneG Go.Proofs.Ytbeefbhoccdicaa.ClG Go.Proofs.Ytbeefbhoccdicaa.OfG
set_option linter.unusedVariables false
set_option linter.unusedSimpArgs false

/-- The vertices' rows. -/
def Rows (L : List S53) (vs : List V3) : Prop := vs.length = L.length ∧ ∀ j, j < L.length → (vs.getD j zv).id = (L.getD j z53).f0 ∧ (vs.getD j zv).val = (L.getD j z53).f1
theorem ex_list {β : Type} (z : β) (p : Nat → β → Prop) : ∀ n, (∀ j, j < n → ∃ b, p j b) → ∃ l : List β, l.length = n ∧ ∀ j, j < n → p j (l.getD j z) := by
  intro n
  induction n with
  | zero => intro _; exact ⟨[], rfl, fun j hj => by omega⟩
  | succ n ih =>
    intro h
    obtain ⟨l, hl, hp⟩ := ih (fun j hj => h j (by omega))
    obtain ⟨b, hb⟩ := h n (by omega)
    refine ⟨l ++ [b], by rw [List.length_append, hl]; rfl, fun j hj => ?_⟩
    rw [List.getD_eq_getElem?_getD]
    by_cases hjn : j = n
    · subst hjn
      rw [← hl, List.getElem?_concat_length]
      rw [hl]; exact hb
    · rw [List.getElem?_append_left (by omega), ← List.getD_eq_getElem?_getD]
      exact hp j (by omega)
theorem rows_of {w : World} {L : List S53} {A : Option Addr} (hr : Kd.C k53 w A L.length L) : ∃ vs, Rows L vs ∧ Kd.C (Kd.raw 3) w A vs.length (vs.map rv) := by
  obtain ⟨news, hnl, hnr, hnf⟩ := Kd.reads_raw hr (fun y c hk => ⟨k53.K_len hk, k53.K_one hk⟩)
  obtain ⟨vs, hvl, hv⟩ := ex_list zv (fun j x => news.getD j [] = rv x ∧ x.id = (L.getD j z53).f0 ∧ x.val = (L.getD j z53).f1) L.length (fun j hj => by
    have hk := hnf j (L.getD j z53) (news.getD j []) (by rw [List.getD_eq_getElem?_getD, List.getElem?_eq_getElem hj]; rfl) (by rw [List.getD_eq_getElem?_getD, List.getElem?_eq_getElem (show j < news.length by omega)]; rfl)
    obtain ⟨A2, c2, he, hl, hC⟩ := k53_open hk
    exact ⟨⟨(L.getD j z53).f0, (L.getD j z53).f1, A2, (L.getD j z53).f2.length, c2⟩, he, rfl, rfl⟩)
  have hn : news = vs.map rv := by
    refine List.ext_getElem (by rw [List.length_map]; omega) (fun j h1 h2 => ?_)
    have h := (hv j (by omega)).1
    rw [List.getD_eq_getElem?_getD, List.getElem?_eq_getElem h1, List.getD_eq_getElem?_getD, List.getElem?_eq_getElem (show j < vs.length by omega)] at h
    rw [List.getElem_map]
    exact h
  refine ⟨vs, ⟨hvl, fun j hj => (hv j hj).2⟩, ?_⟩
  rw [← hn, hvl]
  exact hnr
/-- The place of a vertex of a graph whose identities grow. -/
theorem low_at {L : List S53} (hg : Grows L) {j : Nat} (hj : j < L.length) : lowR L (idAt L j) = j ∧ isR L (idAt L j) = true := by
  have h : lowR L (idAt L j) = j := lowR_eq L _ j (by omega) (fun m hm => hg.lt hm hj) (fun _ => by omega)
  refine ⟨h, ?_⟩
  rw [isR, h]
  simp [hj]
theorem of_mem {vs : List V3} {p q : Int} {k : Nat} (hk : k < (ofP vs p q).length) : ∃ j, j < vs.length ∧ vs.getD j zv = (ofP vs p q).getD k zv ∧ PartG.part ((ofP vs p q).getD k zv).id q = p := by
  have hm : (ofP vs p q).getD k zv ∈ ofP vs p q := PutG.getD_mem _ _ _ hk
  obtain ⟨h1, h2⟩ := List.mem_filter.1 hm
  obtain ⟨j, hj, he⟩ := List.getElem_of_mem h1
  refine ⟨j, hj, ?_, by simpa using h2⟩
  rw [List.getD_eq_getElem?_getD, List.getElem?_eq_getElem hj]
  exact he
/-- What is known of the vertex at a place of a partition. -/
theorem of_at {L : List S53} {vs : List V3} (h : Rows L vs) (hg : Grows L) {p q : Int} {k : Nat} (hk : k < (ofP vs p q).length) : ∃ j, j < L.length ∧ lowR L ((ofP vs p q).getD k zv).id = j ∧ isR L ((ofP vs p q).getD k zv).id = true ∧ (L.getD j z53).f1 = ((ofP vs p q).getD k zv).val ∧ PartG.part ((ofP vs p q).getD k zv).id q = p := by
  obtain ⟨j, hj, he, hp⟩ := of_mem hk
  rw [h.1] at hj
  obtain ⟨h1, h2⟩ := h.2 j hj
  rw [he] at h1 h2
  have hid : ((ofP vs p q).getD k zv).id = idAt L j := h1
  obtain ⟨h3, h4⟩ := low_at hg hj
  rw [hid] at hp ⊢
  exact ⟨j, hj, h3, h4, h2.symm, hp⟩
theorem grows_pair {L : List S53} {vs : List V3} (h : Rows L vs) (hg : Grows L) : vs.Pairwise fun x y => x.id < y.id := by
  rw [List.pairwise_iff_getElem]
  intro i j hi hj hij
  have h1 := (h.2 i (by have := h.1; omega)).1
  have h2 := (h.2 j (by have := h.1; omega)).1
  rw [List.getD_eq_getElem?_getD, List.getElem?_eq_getElem hi] at h1
  rw [List.getD_eq_getElem?_getD, List.getElem?_eq_getElem hj] at h2
  have h3 := hg.lt hij (show j < L.length by have := h.1; omega)
  have h1' : vs[i].id = idAt L i := h1
  have h2' : vs[j].id = idAt L j := h2
  rw [h1', h2']
  exact h3
theorem of_grows {L : List S53} {vs : List V3} (h : Rows L vs) (hg : Grows L) (p q : Int) {k : Nat} (hk : k + 1 < (ofP vs p q).length) : ((ofP vs p q).getD k zv).id < ((ofP vs p q).getD (k + 1) zv).id := by
  have hp : (ofP vs p q).Pairwise fun x y => x.id < y.id := (grows_pair h hg).filter _
  have := List.pairwise_iff_getElem.1 hp k (k + 1) (by omega) hk (by omega)
  rw [List.getD_eq_getElem?_getD, List.getElem?_eq_getElem (show k < (ofP vs p q).length by omega), List.getD_eq_getElem?_getD, List.getElem?_eq_getElem hk]
  exact this
/-- So many vertices lie in the partitions below p. -/
def under (vs : List V3) (p q : Int) : Nat := (vs.filter fun x => decide (PartG.part x.id q < p)).length
theorem under_step (vs : List V3) (p q : Int) : under vs (p + 1) q = under vs p q + (ofP vs p q).length := by
  unfold under ofP
  induction vs with
  | nil => rfl
  | cons x t ih =>
    rcases Int.lt_trichotomy (PartG.part x.id q) p with h | h | h
    · have h1 : PartG.part x.id q < p + 1 := by omega
      have h2 : ¬ PartG.part x.id q = p := by omega
      simp [List.filter_cons, h1, h, h2, ih]; omega
    · have h1 : PartG.part x.id q < p + 1 := by omega
      have h2 : ¬ PartG.part x.id q < p := by omega
      have h4 : p < p + 1 := by omega
      simp [List.filter_cons, h, h4, ih]; omega
    · have h1 : ¬ PartG.part x.id q < p + 1 := by omega
      have h2 : ¬ PartG.part x.id q = p := by omega
      have h3 : ¬ PartG.part x.id q < p := by omega
      simp [List.filter_cons, h1, h2, h3, ih]
theorem under_zero (vs : List V3) {q : Int} (h1 : 1 ≤ q) (h2 : q ≤ 1000) : under vs 0 q = 0 := by
  unfold under
  rw [List.length_eq_zero_iff, List.filter_eq_nil_iff]
  intro x _
  have := (PartG.part_in x.id q h1 h2).1
  simp; omega
theorem under_all (vs : List V3) {q : Int} (h1 : 1 ≤ q) (h2 : q ≤ 1000) : under vs q q = vs.length := by
  unfold under
  rw [List.filter_eq_self.2]
  intro x _
  have := (PartG.part_in x.id q h1 h2).2
  simp; omega
theorem under_le (vs : List V3) (p q : Int) : under vs p q ≤ vs.length := List.length_filter_le _ _
/-- A row that is owned, read. -/
theorem raw_reads {w : World} {base : Nat} {v : Value} (l : List V3) (h : w.ownsRow base 53 3 v l.length (l.flatMap rv)) (hm : l.length ≤ 9223372036854775807) : ∃ A c, v = .slice A l.length c ∧ Kd.C (Kd.raw 3) w A l.length (l.map rv) := by
  have hflat : ∀ (l : List V3) j i, j < l.length → i < 3 → (l.flatMap rv)[j * 3 + i]? = (rv (l.getD j zv))[i]? := by
    intro l
    induction l with
    | nil => intro j i h; simp at h
    | cons x t ih =>
      intro j i hj hi
      rw [List.flatMap_cons]
      have h3 : (rv x).length = 3 := rfl
      cases j with
      | zero => rw [Nat.zero_mul, Nat.zero_add, List.getElem?_append_left (by rw [h3]; exact hi)]; rfl
      | succ j =>
        rw [List.getElem?_append_right (by rw [h3]; omega), h3, show (j + 1) * 3 + i - 3 = j * 3 + i from by omega, ih j i (by simpa using hj) hi]
        rfl
  rcases h.2 with ⟨rfl, h0⟩ | ⟨g, cap, cur, rfl, _⟩
  · refine ⟨none, 0, by rw [h0], by rw [List.length_map], hm, fun hp => by omega⟩
  · refine ⟨some ⟨g, 0, none⟩, cap, rfl, by rw [List.length_map], hm, fun hp => ⟨_, rfl, fun j p hj => ?_⟩⟩
    have hjl : j < l.length := by have := (List.getElem?_eq_some_iff.1 hj).1; rwa [List.length_map] at this
    have hp2 : p = rv (l.getD j zv) := by
      rw [List.getElem?_map, List.getElem?_eq_getElem hjl] at hj
      injection hj with hj
      rw [← hj, List.getD_eq_getElem?_getD, List.getElem?_eq_getElem hjl]; rfl
    subst hp2
    refine ⟨_, rfl, ⟨rfl, rfl, OfL.one_rv _⟩, fun i u hi => ?_⟩
    have hi3 : i < 3 := (List.getElem?_eq_some_iff.1 hi).1
    exact h.cells (g := g) rfl (j * 3 + i) u (by rw [hflat l j i hjl hi3]; exact hi)
theorem of_calls (w : World) (vs : List V3) (A : Option Addr) (c : Nat) (p q : Int) (hr : Kd.C (Kd.raw 3) w A vs.length (vs.map rv)) (hl : vs.length * 40 ≤ 140737488355328) :
    Calls Try.prog 35 #[.agg #[.slice A vs.length c], .int .i64 p, .int .i64 q] w fun e w' => ∃ A2 c2, e = .returned (.slice A2 (ofP vs p q).length c2) ∧ Kd.C (Kd.raw 3) w' A2 (ofP vs p q).length ((ofP vs p q).map rv) ∧ Below w.heap.size w w' := by
  refine ((callsIn_wide (n := 3)).1 (OfL.ofl_in 3 (by omega) w vs A c p q hr hl)).mono ?_
  rintro e w' ⟨v, rfl, ho, hb⟩
  have hle : (ofP vs p q).length ≤ vs.length := List.length_filter_le _ _
  obtain ⟨A2, c2, rfl, hC⟩ := raw_reads _ ho (by omega)
  exact ⟨A2, c2, rfl, hC, hb⟩
end Go.Proofs.Ytbeefbhoccdicaa.PlainO

namespace Go.Proofs.Ytbeefbhoccdicaa.QuietR
open Go

section
variable {F : Fence} {n : Nat} {P : Program} {ops : Array Oper} {md : Region.Mode} {C : World → Prop}
theorem semAt_any (ro : Option Nat) (ρ : Operand → Value) (o : Oper) (h : ∀ c, o.op ≠ .defer c) : Oper.semAt ro ρ o = execOp ρ o := by
  cases ro with
  | none => rfl
  | some l => exact Oper.semAt_some l ρ o h
theorem op_of_quiet {o : Oper} {a : Act} {K : Act → Prop} {K' : Act → World → Prop} {Q' : Exit → Act → World → Prop} {w : World} (hd : ∀ c, o.op ≠ .defer c) (hw : C w) (h : ∀ a w', C w' → K a → K' a w')
    (ha : o.askedIn F P a C) (hh : o.quietIn F n P a C K) : o.wpIn F n P a w K' Q' := by
  obtain ⟨v, h1, h2⟩ := hh
  have h3 := h1 w hw
  unfold Oper.quietAtIn at h3
  unfold Oper.wpIn
  refine ⟨ha w hw, ?_⟩
  rw [semAt_any _ _ _ hd]
  generalize (execOp a.eval o).run P w = r at *
  cases r with
  | ok x w' =>
    cases x <;> simp only [Oper.quietUponIn] at h3 <;> simp only [Oper.uponIn]
    case value u =>
      obtain ⟨e1, e2⟩ := h3
      rw [e1, e2]
      exact h _ _ hw h2
    case skip =>
      obtain ⟨e1, e2⟩ := h3
      rw [e1, ← e2]
      exact h _ _ hw h2
    case enter f args =>
      obtain ⟨e1, hd, hc⟩ := h3
      rw [e1]
      exact ⟨hd, hc.mono fun e w'' ⟨he, hw''⟩ => by subst he; exact h _ _ hw'' h2⟩
  | halt x w' => simp only [Oper.quietUponIn] at h3
theorem opIn_of_q {i : Nat} {a : Act} {K : Act → Prop} {K' : Act → World → Prop} {Q' : Exit → Act → World → Prop} {w : World} (hd : ∀ o, ops[i]? = some o → ∀ c, o.op ≠ .defer c) (hC : C w) (h : ∀ a w', C w' → K a → K' a w')
    (hh : qOpIn F n P ops C i K a) : wpOpIn F n P ops Q' i K' a w := by
  unfold qOpIn at hh
  unfold wpOpIn
  split
  · rename_i ho; simp only [ho] at hh; exact h _ _ hC hh
  · rename_i o ho
    simp only [ho] at hh
    obtain ⟨ha, hh⟩ := hh
    split
    · rename_i hw; simp only [hw, if_true] at hh; exact op_of_quiet (hd o ho) hC h ha hh
    · rename_i hw; simp only [hw] at hh; exact ⟨ha w hC, h _ _ hC hh⟩
theorem anyIn_of_quiet {Q : Act → Prop} {Q' : Exit → Act → World → Prop} (hd : ∀ (i : Nat) o, ops[i]? = some o → ∀ c, o.op ≠ .defer c) (hQ : ∀ a w, C w → Q a → Q' .normal a w) : ∀ (fuel : Nat) (listed : Array Bool) (a : Act) (w : World), C w →
    wpAnyQIn F n P md ops C Q fuel listed a → wpAnyIn F n P md ops Q' fuel listed a w
  | 0, _, _, _, hw, h => ⟨h.1, hQ _ _ hw h.2⟩
  | fuel + 1, _, _, _, hw, h => ⟨fun h0 => hQ _ _ hw (h.1 h0), fun i hi => opIn_of_q (hd i) hw (fun a' w' hw' => anyIn_of_quiet hd hQ fuel _ a' w' hw') (h.2 i hi)⟩
/-- No operation is a defer statement. -/
def noDefer (o : Oper) : Bool := match o.op with
  | .defer _ => false
  | _ => true
theorem noDefer_spec {l : List Oper} (h : l.all noDefer = true) : ∀ (i : Nat) o, l.toArray[i]? = some o → ∀ c, o.op ≠ .defer c := by
  intro i o ho c hc
  have hm : o ∈ l := by
    rw [List.getElem?_toArray] at ho
    exact List.mem_of_getElem? ho
  have := List.all_eq_true.1 h o hm
  unfold noDefer at this
  rw [hc] at this
  cases this
theorem region_quiet {id : Nat} {Q : Exit → Act → World → Prop} {a : Act} {w : World} {l : List Oper} (hd : l.all noDefer = true) (hm : P.follows .mixedOrders = true) (hB : Region.lexB .any l.toArray = true)
    (h : wpQuietIn F n P l.toArray (fun w' => ∃ n, w' = w.drewN n) (fun a' => ∀ w', (∃ n, w' = w.drewN n) → Q .normal a' w') l a) : (Code.region id l.toArray true).wpIn F n P Q a w := by
  simp only [Region.lexB, Bool.and_eq_true] at hB
  refine wpIn_region_any hm (anyIn_of_quiet (C := fun w' => ∃ n, w' = w.drewN n) (Q := fun a' => ∀ w', (∃ n, w' = w.drewN n) → Q .normal a' w') (noDefer_spec hd) (fun _ w' hw' h => h w' hw') _ _ _ _ ⟨1, rfl⟩ ?_)
  have := wpAnyQIn_lex (F := F) (n := n) (C := fun w' => ∃ n, w' = w.drewN n) (md := .any) hB.1 l 0 (Array.replicate l.toArray.size false) a (by simp) (by simpa using hB.2) h
  simpa using this
end
end Go.Proofs.Ytbeefbhoccdicaa.QuietR

namespace Go.Proofs.Ytbeefbhoccdicaa.PartsH
open Go.RowKit Go.Shelf Go.Proofs.YtbeefbhoccdicaaW.PrintWords Go.Proofs.YtbeefbhoccdicaaW.PrintLast Go.Proofs.YtbeefbhoccdicaaW.PrintMore Go.Proofs.Ytbeefbhoccdicaa.QGraphReads Go.Proofs.Ytbeefbhoccdicaa.WireNum Go.Proofs.Ytbeefbhoccdicaa.PutG Go.Proofs.Ytbeefbhoccdicaa.FindG Go.Proofs.Ytbeefbhoccdicaa.EdgesG Go.Proofs.Ytbeefbhoccdicaa.AllG Go.Proofs.Ytbeefbhoccdicaa.CheckG Go.Proofs.Ytbeefbhoccdicaa.SameG Go.Proofs.Ytbeefbhoccdicaa.RefCheck Go.Proofs.Ytbeefbhoccdicaa.RefSpec Go.Proofs.Ytbeefbhoccdicaa.PartG Go.Proofs.Ytbeefbhoccdicaa.OfG Go.Proofs.Ytbeefbhoccdicaa.PlainO
attribute [local go_sem] Oper.semAt_some
set_option linter.unusedVariables false
set_option linter.unusedSimpArgs false

theorem results_cell6 (tmps : Array Value) (w : World) (g : Nat) (b : Bool)
    (hp : tmps.getD 6 undef = .pointer (some ⟨g, 0, none⟩)) (hc : w.cell? ⟨g, 0, none⟩ = some (.bool b)) :
    (results Try.f6 tmps).run Try.prog w = .ok (.bool b) w := by
  have hp' : tmps[6]?.getD undef = .pointer (some ⟨g, 0, none⟩) := by simpa using hp
  have hu := Try.underlying4
  have h : Try.f6.results = #[.cell 6 4] := rfl
  simp only [results, h]
  go_simp
theorem ret_post {n : Nat} {R : Ending → World → Prop} (tmps : Array Value) (w : World) (g : Nat) (b : Bool) (hp : tmps.getD 6 undef = .pointer (some ⟨g, 0, none⟩)) (hc : w.cell? ⟨g, 0, none⟩ = some (.bool b)) (hR : R (.returned (.bool b)) w) :
    bodyPostM Fence.wide n Try.prog Try.f6 R .ret ⟨tmps, []⟩ w := ⟨_, results_cell6 tmps w g b hp hc, hR⟩

theorem part_q (w : World) (x q p : Int) (h : PartG.part x q = p) : Calls Try.prog 37 #[.int .i64 x, .int .i64 q] w fun e w' => e = .returned (.int .i64 p) ∧ w' = w := by
  refine (part_pure w x q).mono ?_
  rintro e w' ⟨rfl, rfl⟩
  exact ⟨by rw [h], rfl⟩
theorem ref_q (w : World) (x q p : Int) (hx : PartG.part x q = p) : Calls Try.prog 38 #[.int .i64 x, .int .i64 q] w fun e w' => e = .returned (.int .i64 p) ∧ w' = w := by
  subst hx
  unfold PartG.part
  by_cases h1 : q < 1
  · rw [if_pos h1]
    go_enter Try.func38, Try.ntmps38
    go_wp2
    go_ret
    exact ⟨rfl, rfl⟩
  · rw [if_neg h1]
    have hz : ¬ q = 0 := by omega
    by_cases h2 : Int.tmod x q < 0
    · rw [if_pos h2]
      go_enter Try.func38, Try.ntmps38
      go_wp2
      go_ret
      exact ⟨rfl, rfl⟩
    · rw [if_neg h2]
      go_enter Try.func38, Try.ntmps38
      go_wp2
      go_ret
      exact ⟨rfl, rfl⟩

/-- Q, and no panic. -/
def calm (Q : Exit → Act → World → Prop) : Exit → Act → World → Prop
  | .panic _, _, _ => False
  | e, a, w => Q e a w
theorem calm_imp {Q : Exit → Act → World → Prop} {e : Exit} {a : Act} {w : World} (h : calm Q e a w) : Q e a w := by
  cases e <;> first | exact h | exact h.elim
/-- What stands all along: what lay in w; the boxes of the graph, of where to stop, of the answer. -/
structure Fx (w : World) (A : Option Addr) (n c : Nat) (stop : Int) (wr : World) : Prop where
  b : Below w.heap.size w wr
  g : wr.heap[w.heap.size]? = some (.cells #[.slice A n c] 24 (0, 0))
  s : wr.heap[w.heap.size + 1]? = some (.cells #[.int .i64 stop] 3 (0, 0))
  f : wr.heap[w.heap.size + 1 + 1]? = some (.cells #[.bool false] 4 (0, 0))
theorem Fx.step {w wr w' : World} {A : Option Addr} {n c : Nat} {stop : Int} (h : Fx w A n c stop wr) (hb : Below wr.heap.size wr w') : Fx w A n c stop w' :=
  ⟨below_then h.b h.b.size hb, blk_below h.g hb, blk_below h.s hb, blk_below h.f hb⟩
theorem Fx.gc {w wr : World} {A : Option Addr} {n c : Nat} {stop : Int} (h : Fx w A n c stop wr) : wr.cell? ⟨w.heap.size, 0, none⟩ = some (.slice A n c) := (blk_cell h.g 0).trans rfl
theorem Fx.sc {w wr : World} {A : Option Addr} {n c : Nat} {stop : Int} (h : Fx w A n c stop wr) : wr.cell? ⟨w.heap.size + 1, 0, none⟩ = some (.int .i64 stop) := (blk_cell h.s 0).trans rfl
theorem Fx.fc {w wr : World} {A : Option Addr} {n c : Nat} {stop : Int} (h : Fx w A n c stop wr) : wr.cell? ⟨w.heap.size + 1 + 1, 0, none⟩ = some (.bool false) := (blk_cell h.f 0).trans rfl
theorem Fx.lt {w wr : World} {A : Option Addr} {n c : Nat} {stop : Int} (h : Fx w A n c stop wr) : w.heap.size + 1 + 1 < wr.heap.size := blk_lt h.f
theorem Fx.done {w wr : World} {A : Option Addr} {n c : Nat} {stop : Int} (h : Fx w A n c stop wr) {m : Nat} (tmps : Array Value) (hp : tmps.getD 6 undef = .pointer (some ⟨w.heap.size + 1 + 1, 0, none⟩)) :
    bodyPostM Fence.wide m Try.prog Try.f6 (fun e w' => e = .returned (.bool true) ∧ Below w.heap.size w w') .ret ⟨tmps, []⟩ (wr.setCell ⟨w.heap.size + 1 + 1, 0, none⟩ (.bool true)) :=
  ret_post tmps _ (w.heap.size + 1 + 1) true hp ((blk_cell (blk_set h.f 0 (.bool true)) 0).trans rfl) ⟨rfl, below_set h.b (by omega)⟩

/-- What stands in the second half: the counter, the boxes of what is wanted. -/
structure Hx (w : World) (A : Option Addr) (n c : Nat) (stop : Int) (B : Nat) (n15 : Int) (v16 v17 : Value) (wr : World) : Prop where
  fx : Fx w A n c stop wr
  ne : w.heap.size + 1 + 1 < B
  bn : wr.heap[B]? = some (.cells #[.int .i64 n15] 3 (0, 0))
  b16 : wr.heap[B + 1 + 1]? = some (.cells #[v16] 65 (0, 0))
  b17 : wr.heap[B + 1 + 1 + 1 + 1]? = some (.cells #[v17] 51 (0, 0))
def Gx (w : World) (A : Option Addr) (n c : Nat) (stop : Int) (B : Nat) (n15 : Int) (xs : List (Int × S67)) (wr : World) : Prop :=
  ∃ v16 v17, Hx w A n c stop B n15 v16 v17 wr ∧ Kd.R (Kd.int .i64) 2 wr B (fun _ => True) v16 (xs.map Prod.fst) ∧ Kd.R k67 67 wr B (fun _ => True) v17 (xs.map Prod.snd)
theorem Hx.c16 {w wr : World} {A : Option Addr} {n c : Nat} {stop : Int} {B : Nat} {n15 : Int} {v16 v17 : Value} (h : Hx w A n c stop B n15 v16 v17 wr) : wr.cell? ⟨B + 1 + 1, 0, none⟩ = some v16 := (blk_cell h.b16 0).trans rfl
theorem Hx.c17 {w wr : World} {A : Option Addr} {n c : Nat} {stop : Int} {B : Nat} {n15 : Int} {v16 v17 : Value} (h : Hx w A n c stop B n15 v16 v17 wr) : wr.cell? ⟨B + 1 + 1 + 1 + 1, 0, none⟩ = some v17 := (blk_cell h.b17 0).trans rfl
theorem Hx.cn {w wr : World} {A : Option Addr} {n c : Nat} {stop : Int} {B : Nat} {n15 : Int} {v16 v17 : Value} (h : Hx w A n c stop B n15 v16 v17 wr) : wr.cell? ⟨B, 0, none⟩ = some (.int .i64 n15) := (blk_cell h.bn 0).trans rfl
theorem Fx.kpt {w wr w1 : World} {A : Option Addr} {n c : Nat} {stop : Int} {ts : TypeId → Prop} (h : Fx w A n c stop wr) (k : KpT ts w.heap.size wr w1) (h24 : ts 24) (h3 : ts 3) (h4 : ts 4) : Fx w A n c stop w1 :=
  ⟨h.b.trans k.1, k.2 _ _ _ h24 h.g, k.2 _ _ _ h3 h.s, k.2 _ _ _ h4 h.f⟩
theorem Hx.kpt {w wr w1 : World} {A : Option Addr} {n c : Nat} {stop : Int} {B : Nat} {n15 : Int} {v16 v17 : Value} {ts : TypeId → Prop} (h : Hx w A n c stop B n15 v16 v17 wr) (k : KpT ts w.heap.size wr w1) (h24 : ts 24) (h3 : ts 3) (h4 : ts 4) (h65 : ts 65) (h51 : ts 51) : Hx w A n c stop B n15 v16 v17 w1 :=
  ⟨h.fx.kpt k h24 h3 h4, h.ne, k.2 _ _ _ h3 h.bn, k.2 _ _ _ h65 h.b16, k.2 _ _ _ h51 h.b17⟩
theorem kpT_drew {ts : TypeId → Prop} {n0 : Nat} {W : World} : KpT ts n0 W W.drew := ⟨below_drew (Below.refl _ _), fun i cs t _ h => blk_drew h⟩
theorem R_kpT {α : Type} {d : Kd α} {e : Nat} {w w1 : World} {base n0 : Nat} {v : Value} {xs : List α} {ts : TypeId → Prop} (h : d.R e w base (fun _ => True) v xs) (k : KpT ts n0 w w1) (hq : ∀ q, q ∈ e :: d.E → ts q) : d.R e w1 base (fun _ => True) v xs := by
  refine Kd.R_mono (Kd.R_move (Kd.R_bound h) ?_) (fun _ _ => trivial)
  rintro b ⟨_, _, _, q, hm, cells, hc⟩
  exact (k.2 _ _ _ (hq q hm) hc).trans hc.symm
theorem R_empty {α : Type} (d : Kd α) (e : Nat) (w : World) (base g : Nat) (hg : base ≤ g) (h : w.heap[g]? = some (.cells #[] e (0, 0))) : Kd.R d e w base (fun _ => True) (.slice (some ⟨g, 0, none⟩) 0 0) [] :=
  ⟨fun _ _ => trivial, [], ⟨by simp, .inr ⟨g, 0, #[], rfl, hg, h, Nat.le_refl _, by decide, by simp, by simp⟩⟩, Reps.none _ _⟩
theorem kpT_grown {α : Type} {d : Kd α} {e : Nat} {w w1 : World} {base n0 : Nat} {v : Value} {xs : List α} (h : d.R e w base (fun _ => True) v xs) (hn : n0 ≤ base) (hz : n0 ≤ w.heap.size) (hg : w.grownBy w1 v.ownBlock) : KpT (fun t => t ≠ e) n0 w w1 := by
  obtain ⟨inner, ho⟩ := Kd.R_own h
  refine ⟨(Below.refl n0 w).grown hg hz (fun j ej => Nat.le_trans hn (own_base ho j ej)), fun i cs t ht hc => blk_grown hc hg (fun hi => ?_)⟩
  obtain ⟨cells, hk⟩ := own_typed ho i hi.symm
  rw [hc] at hk
  injection hk with hk
  injection hk with _ hk
  exact ht hk
/-- append(v, x) in a region, wherever x's block lies. -/
theorem step_append_at {α : Type} {ops : Array Oper} {o : Oper} {a : Act} {Q : Exit → Act → World → Prop} {K : Act → World → Prop} (d : Kd α) {W : World} (base : Nat) (hw : Region.wanted o (yielded ops a.tmps) = true) (s x : Operand) (t e : TypeId) (z : Value) (bytes : Nat)
    (ho : o.op = .call { callee := .builtin .append, args := #[s, x], argTypes := #[t, t] })
    (ht : Try.prog.underlying t = some (.slice e)) (hinfo : (Try.prog.info? e).map (fun i => (i.zero, i.size, i.bytes)) = some (some z, d.sz, bytes)) (hz : z.cells.size = d.sz) (hs0 : 0 < d.sz) (hb0 : 0 < bytes)
    (v : Value) (xs : List α) (p : α) (cs : List Value) (hs : a.eval s = v) (g : Nat) (hx : a.eval x = .slice (some ⟨g, 0, none⟩) 1 1) (hgb : W.heap[g]? = some (.cells cs.toArray e (0, 0)))
    (hp : d.M W base (fun _ => False) p cs) (HO : d.R e W base (fun _ => True) v xs) (hbase : base ≤ W.heap.size) (hl : (xs.length + 1) * bytes ≤ 140737488355328)
    (h : ∀ v1 w1, d.R e w1 base (fun _ => True) v1 (xs ++ [p]) → W.grownBy w1 v.ownBlock → K (a.put o.dst v1) w1) :
    if Region.wanted o (yielded ops a.tmps) = true then Oper.wp Try.prog o a W K Q else K (a.put o.dst undef) W := by
  obtain ⟨i0, hi, hzz⟩ := Option.map_eq_some_iff.1 hinfo
  simp only [Prod.mk.injEq] at hzz
  obtain ⟨hz0, hz1, hz2⟩ := hzz
  obtain ⟨h0, inner, hown, hr⟩ := HO
  have hlen : xs.length + 1 ≤ 140737488355328 := Nat.le_trans (Nat.le_mul_of_pos_right _ hb0) hl
  rw [if_pos hw]
  have hys := d.K_len (d.K_of_M hp)
  obtain ⟨v1, w1, hrn, hown1, hg, _, hat⟩ := run_append_own_at (P := Try.prog) W base t o.type e i0 z d.sz bytes ht hi hz0 hz1 hz2 hz hs0 v xs.length inner hown ⟨g, 0, none⟩ 1 1 cs (by rw [hys]; simp)
    (by simpa using World.news_of_block (cs := cs.toArray) (t := e) (fr := (0, 0)) hgb) (d.K_one (d.K_of_M hp)) (by simp only [maxLen]; omega) hl hbase
  unfold Oper.wp execOp
  simp only [ho, resolve, invoke, builtin, Sem.run_bind, Sem.run_pure, Result.andThen_ok, List.map_toArray, List.map_cons, List.map_nil, hs, hx, hrn]
  refine h v1 w1 (Kd.R_appended h0 hr hp (fun _ hk => hk.elim) (fun _ _ => trivial) hown1 hg ?_) hg
  rcases hat with hat | hat
  · exact .inl hat
  · exact .inr ⟨_, hat, Nat.le_refl _⟩
theorem info2 : (Try.prog.info? 2).map (fun i => (i.zero, i.size, i.bytes)) = some (some (.int .i64 0), 1, 8) := by kernel_rfl
theorem Hx.set16 {w wr : World} {A : Option Addr} {n c : Nat} {stop : Int} {B : Nat} {n15 : Int} {v16 v17 : Value} (h : Hx w A n c stop B n15 v16 v17 wr) (u : Value) : Hx w A n c stop B n15 u v17 (wr.setCell ⟨B + 1 + 1, 0, none⟩ u) := by
  have hne := h.ne
  have k := kpT_set (ts := fun t => t ≠ 65) (n0 := w.heap.size) (by omega) h.b16 (fun hh => hh rfl) 0 u
  exact ⟨h.fx.kpt k (by decide) (by decide) (by decide), h.ne, k.2 _ _ _ (by decide) h.bn, blk_set h.b16 0 u, k.2 _ _ _ (by decide) h.b17⟩
theorem Hx.set17 {w wr : World} {A : Option Addr} {n c : Nat} {stop : Int} {B : Nat} {n15 : Int} {v16 v17 : Value} (h : Hx w A n c stop B n15 v16 v17 wr) (u : Value) : Hx w A n c stop B n15 v16 u (wr.setCell ⟨B + 1 + 1 + 1 + 1, 0, none⟩ u) := by
  have hne := h.ne
  have k := kpT_set (ts := fun t => t ≠ 51) (n0 := w.heap.size) (by omega) h.b17 (fun hh => hh rfl) 0 u
  exact ⟨h.fx.kpt k (by decide) (by decide) (by decide), h.ne, k.2 _ _ _ (by decide) h.bn, k.2 _ _ _ (by decide) h.b16, blk_set h.b17 0 u⟩
theorem q2 (t : TypeId) (h : 2 ≠ t) : ∀ q, q ∈ 2 :: (Kd.int .i64).E → q ≠ t := by
  show ∀ q, q ∈ [2] → q ≠ t
  intro q hq
  rcases List.mem_cons.1 hq with rfl | hq
  · exact h
  · cases hq
theorem q67 (t : TypeId) (h : 67 ≠ t) : ∀ q, q ∈ 67 :: k67.E → q ≠ t := by
  show ∀ q, q ∈ [67] → q ≠ t
  intro q hq
  rcases List.mem_cons.1 hq with rfl | hq
  · exact h
  · cases hq
theorem Fx.doneM {w wr : World} {A : Option Addr} {n c : Nat} {stop : Int} (h : Fx w A n c stop wr) {m D : Nat} (hD : w.heap.size ≤ D) (hK : wr.heap[D]? = some (.deferred (some []))) (tmps : Array Value) (hp : tmps.getD 6 undef = .pointer (some ⟨w.heap.size + 1 + 1, 0, none⟩)) :
    bodyPostM Fence.wide m Try.prog Try.f6 (fun e w' => e = .returned (.bool true) ∧ Below w.heap.size w w') .ret ⟨tmps, [{ target := .collected D, args := #[] }]⟩ (wr.setCell ⟨w.heap.size + 1 + 1, 0, none⟩ (.bool true)) := by
  have hDb : D ≠ w.heap.size + 1 + 1 := by
    intro hh
    have hf := h.f
    rw [← hh, hK] at hf
    cases hf
  have hK4 : (wr.setCell ⟨w.heap.size + 1 + 1, 0, none⟩ (.bool true)).heap[D]? = some (.deferred (some [])) := (Below.heap_setCell wr _ _ D (show D ≠ w.heap.size + 1 + 1 from hDb)).trans hK
  refine ⟨by simp, .inl ⟨_, _, rfl, run_takeDeferred hK4, ?_⟩⟩
  refine ⟨_, results_cell6 tmps _ (w.heap.size + 1 + 1) true hp (by rw [World.cell?, World.putObj_heap_other hDb.symm]; exact (blk_cell (blk_set h.f 0 (.bool true)) 0).trans rfl), rfl, ?_⟩
  exact (below_set h.b (by omega)).trans (belowK_b (w := w) (Nat.le_refl _) _ D _ _ hD hK4 rfl rfl)
/-- The act's slots under a name. -/
theorem name_act {c : Code} {Q : Exit → Act → World → Prop} {a : Act} {w : World} (h : ∀ T, T = a.tmps → Code.wp Try.prog c Q { tmps := T, defers := a.defers } w) : Code.wp Try.prog c Q a w := h _ rfl
theorem own_kpT {B n0 : Nat} {W W' : World} {row : Option Nat} (hn : n0 ≤ W.heap.size) (hb : n0 ≤ B) (hg : W.grownBy W' row) (hr : ∀ r, row = some r → B ≤ r ∧ ∃ o : Obj, W.heap[r]? = some o ∧ o.isCells = false) : KpT (fun _ => True) n0 W W' := by
  refine ⟨(Below.refl n0 W).grown hg hn (fun j e => Nat.le_trans hb (hr j e).1), fun i cs t _ hc => blk_grown hc hg (fun hi => ?_)⟩
  obtain ⟨_, o, ho, hco⟩ := hr i hi.symm
  rw [hc] at ho
  injection ho with ho
  rw [← ho] at hco
  cases hco
/-- What stands between two rounds. -/
structure Ix0 (w : World) (A : Option Addr) (n c : Nat) (stop : Int) (B : Nat) (v16 v17 : Value) (xs : List (Int × S67)) (m : Nat) (W : World) : Prop where
  hx : Hx w A n c stop B (m : Int) v16 v17 W
  r16 : Kd.R (Kd.int .i64) 2 W B (fun _ => True) v16 (xs.map Prod.fst)
  r17 : Kd.R k67 67 W B (fun _ => True) v17 (xs.map Prod.snd)
theorem Ix0.kpt {w W W' : World} {A : Option Addr} {n c : Nat} {stop : Int} {B m n0 : Nat} {v16 v17 : Value} {xs : List (Int × S67)} (h : Ix0 w A n c stop B v16 v17 xs m W) (k : KpT (fun _ => True) w.heap.size W W') : Ix0 w A n c stop B v16 v17 xs m W' :=
  ⟨h.hx.kpt k trivial trivial trivial trivial trivial, R_kpT h.r16 k (fun _ _ => trivial), R_kpT h.r17 k (fun _ _ => trivial)⟩
theorem Ix0.own {w : World} {A : Option Addr} {n c : Nat} {stop : Int} {B b : Nat} {v16 v17 : Value} {xs : List (Int × S67)} (hb : w.heap.size ≤ b) : OwnFrom b (fun (pre : List (Int × S67)) W => Ix0 w A n c stop B v16 v17 xs pre.length W) := by
  intro pre W W' row h hg hr
  exact h.kpt (n0 := 0) (own_kpT h.hx.fx.b.size hb hg hr)
/-- The counter is one more. -/
theorem Ix0.next {w W : World} {A : Option Addr} {n c : Nat} {stop : Int} {B m : Nat} {v16 v17 : Value} {xs : List (Int × S67)} (h : Ix0 w A n c stop B v16 v17 xs m W) : Ix0 w A n c stop B v16 v17 xs (m + 1) (W.setCell ⟨B, 0, none⟩ (.int .i64 ((m : Int) + 1))) ∧ KpT (fun t => t ≠ 3) w.heap.size W (W.setCell ⟨B, 0, none⟩ (.int .i64 ((m : Int) + 1))) := by
  have hne := h.hx.ne
  have k := kpT_set (ts := fun t => t ≠ 3) (n0 := w.heap.size) (by omega) h.hx.bn (fun hh => hh rfl) 0 (.int .i64 ((m : Int) + 1))
  have hfx := h.hx.fx
  refine ⟨⟨⟨⟨hfx.b.trans k.1, k.2 _ _ _ (by decide) hfx.g, blk_far (p := ⟨B, 0, none⟩) hfx.s (by show w.heap.size + 1 ≠ B; omega) _, k.2 _ _ _ (by decide) hfx.f⟩, h.hx.ne, ?_, k.2 _ _ _ (by decide) h.hx.b16, k.2 _ _ _ (by decide) h.hx.b17⟩, R_kpT h.r16 k (q2 _ (by decide)), R_kpT h.r17 k (q67 _ (by decide))⟩, k⟩
  have hb := blk_set h.hx.bn 0 (.int .i64 ((m : Int) + 1))
  rw [show ((m + 1 : Nat) : Int) = (m : Int) + 1 from by omega]
  exact hb
theorem Ix0.at_ {w W : World} {A A16 A17 : Option Addr} {n c n6 c16 n7 c17 : Nat} {stop : Int} {B m : Nat} {xs : List (Int × S67)} (h : Ix0 w A n c stop B (.slice A16 n6 c16) (.slice A17 n7 c17) xs m W) (hm : m < xs.length) :
    ∃ ad ad2, A16 = some ad ∧ A17 = some ad2 ∧ W.cell? (ad.add m) = some (.int .i64 (xs.getD m (0, z67)).1) ∧ W.cell? (ad2.add (m * 2)) = some (.int .i64 (xs.getD m (0, z67)).2.f0) ∧
      W.cell? ⟨(ad2.add (m * 2)).block, (ad2.add (m * 2)).off + 1, none⟩ = some (.int .i64 (xs.getD m (0, z67)).2.f1) := by
  obtain ⟨_, _, hC⟩ := Kd.R_reads' h.r16
  obtain ⟨_, _, hD⟩ := Kd.R_reads' h.r17
  have e1 : (xs.map Prod.fst).getD m 0 = (xs.getD m (0, z67)).1 := by
    rw [List.getD_eq_getElem?_getD, List.getD_eq_getElem?_getD, List.getElem?_map, List.getElem?_eq_getElem hm]; rfl
  have e2 : (xs.map Prod.snd).getD m z67 = (xs.getD m (0, z67)).2 := by
    rw [List.getD_eq_getElem?_getD, List.getD_eq_getElem?_getD, List.getElem?_map, List.getElem?_eq_getElem hm]; rfl
  obtain ⟨ad, cs, e, _, hK, hc0⟩ := Kd.C_get hC 0 (m : Int) (by omega) (by rw [List.length_map]; omega)
  obtain ⟨ad2, e', h0, h1⟩ := at_T67 hD (m : Int) (by omega) (by rw [List.length_map]; omega)
  rw [Int.toNat_natCast] at h0 h1 hK hc0
  have hK' : cs = [.int .i64 ((xs.map Prod.fst).getD m 0)] := hK
  subst hK'
  have hq := hc0 0 _ rfl
  rw [e1] at hq
  have hr : rd_T67 (xs.map Prod.snd) (m : Int) = (xs.getD m (0, z67)).2 := by rw [← e2]; rfl
  rw [hr] at h0 h1
  exact ⟨ad, ad2, e, e', by rw [show m * (Kd.int IntKind.i64).sz + 0 = m from Nat.mul_one m] at hq; exact hq, h0, h1⟩
theorem kpT_drewN {ts : TypeId → Prop} {n0 : Nat} {W : World} (k : Nat) : KpT ts n0 W (W.drewN k) := ⟨pw_below_drewN (Below.refl _ _) k, fun i cs t _ h => blk_drewN h k⟩
theorem kpT_below {ts : TypeId → Prop} {n0 : Nat} {W W' : World} (hn : n0 ≤ W.heap.size) (h : Below W.heap.size W W') : KpT ts n0 W W' := ⟨below_then (Below.refl _ _) hn h, fun i cs t _ hc => blk_below hc h⟩
theorem Ix0.round {w W : World} {A : Option Addr} {n c : Nat} {stop : Int} {B m : Nat} {v16 v17 : Value} {xs : List (Int × S67)} (h : Ix0 w A n c stop B v16 v17 xs m W) (nq : Nat) :
    Ix0 w A n c stop B v16 v17 xs (m + 1) ((W.drewN nq).setCell ⟨B, 0, none⟩ (.int .i64 ((m : Int) + 1))) ∧ KpT (fun t => t = 53) w.heap.size W ((W.drewN nq).setCell ⟨B, 0, none⟩ (.int .i64 ((m : Int) + 1))) ∧ KeepsOthers W ((W.drewN nq).setCell ⟨B, 0, none⟩ (.int .i64 ((m : Int) + 1))) := by
  obtain ⟨h1, k⟩ := (h.kpt (n0 := 0) (kpT_drewN nq)).next
  have k2 : KpT (fun t => t ≠ 3) w.heap.size W _ := kpT_t (kpT_drewN nq) k
  have hk := KeepsOthers.setCell (W.drewN nq) ⟨B, 0, none⟩ (.int .i64 ((m : Int) + 1))
  exact ⟨h1, ⟨k2.1, fun i cs t ht hc => k2.2 i cs t (by rw [ht]; decide) hc⟩, ⟨hk.size, hk.same⟩⟩
theorem keeps_flag (W : World) (nq : Nat) (p : Addr) (v : Value) : KeepsOthers W ((W.drewN nq).setCell p v) := ⟨(KeepsOthers.setCell (W.drewN nq) p v).size, (KeepsOthers.setCell (W.drewN nq) p v).same⟩
theorem own_p {β : Type} {B : Nat} {I : β → World → Prop} (p : β → Prop) (h : OwnFrom B I) : OwnFrom B (fun s W => p s ∧ I s W) := fun s W W' row hs hg hr => ⟨hs.1, h s W W' row hs.2 hg hr⟩
theorem ax_own {B : Nat} (a' : Act) (f : Nat → Act) (cs : Array Value) (n0 : Nat) : OwnFrom B (fun (_ : Unit) (W : World) => ∃ g : Nat, n0 ≤ g ∧ a' = f g ∧ W.heap[g]? = some (.cells cs 67 (0, 0))) := by
  rintro s W W' row ⟨g, h0, h1, h2⟩ hgr hrow
  exact ⟨g, h0, h1, ((blk_own g 67 (fun _ : Unit => cs)).from B) s W W' row h2 hgr hrow⟩
/-- What begins as a list does has its elements. -/
theorem pre_at {l m : List (Int × S67)} {x : Int × S67} (h : l ++ [x] <+: m) : m.getD l.length (0, z67) = x := by
  obtain ⟨t, rfl⟩ := h
  rw [List.getD_eq_getElem?_getD, List.append_assoc, List.getElem?_append_right (Nat.le_refl _)]
  simp
theorem allOf_len (L : List S53) (m : Nat) (h : ∀ v ∈ L, v.f2.length ≤ m) : (allOf L).length ≤ L.length * m := by
  rw [allOf_length]
  induction L with
  | nil => simp
  | cons v t ih =>
    rw [List.foldr_cons, List.length_cons, Nat.succ_mul]
    have h1 := h v (by simp)
    have h2 := ih (fun x hx => h x (by simp [hx]))
    omega
theorem allOf_small {L : List S53} (h0 : wrap64 (allOf L).length ≤ 2048) (hn : L.length ≤ 256) (h : ∀ v ∈ L, v.f2.length ≤ 8796093022208) : (allOf L).length ≤ 2048 := by
  have h1 := allOf_len L _ h
  have h2 : L.length * 8796093022208 ≤ 256 * 8796093022208 := Nat.mul_le_mul_right _ hn
  unfold wrap64 at h0
  omega
end Go.Proofs.Ytbeefbhoccdicaa.PartsH
