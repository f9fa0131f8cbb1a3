/- A vertex and a graph are put, walked. -/
import Derived.Test.YtbeefbhoccdicaaWriter
namespace Go.Proofs.Ytbeefbhoccdicaa.PutG
open Go.RowKit Go.Proofs.YtbeefbhoccdicaaW.PrintWords Go.Proofs.YtbeefbhoccdicaaW.PrintLast Go.Proofs.YtbeefbhoccdicaaW.PrintMore Go.Proofs.Ytbeefbhoccdicaa.QGraphReads Go.Proofs.Ytbeefbhoccdicaa.WireNum Go.Proofs.Ytbeefbhoccdicaa.WireRead Go.Proofs.Ytbeefbhoccdicaa.Writer
set_option linter.unusedVariables false

def putEdges (b : ByteArray) (l : List S67) : ByteArray := l.foldl (fun b e => b ++ sgnStr e.f0 ++ sgnStr e.f1) b
def putVertex (b : ByteArray) (v : S53) : ByteArray := putEdges (b ++ sgnStr v.f0 ++ sgnStr v.f1 ++ numStr v.f2.length) v.f2
def putVerts (b : ByteArray) (g : List S53) : ByteArray := g.foldl putVertex b

theorem sgn_size (z : Int) : (sgnStr z).size ≤ 10 := numStr_size _
theorem putEdges_snoc (b : ByteArray) (l : List S67) (e : S67) : putEdges b (l ++ [e]) = putEdges b l ++ sgnStr e.f0 ++ sgnStr e.f1 := by simp [putEdges]
theorem putVerts_snoc (b : ByteArray) (l : List S53) (v : S53) : putVerts b (l ++ [v]) = putVertex (putVerts b l) v := by simp [putVerts]
theorem putEdges_size (l : List S67) : ∀ b : ByteArray, (putEdges b l).size ≤ b.size + 20 * l.length := by
  induction l with
  | nil => intro b; simp [putEdges]
  | cons e t ih =>
    intro b
    have h := ih (b ++ sgnStr e.f0 ++ sgnStr e.f1)
    have h1 := sgn_size e.f0
    have h2 := sgn_size e.f1
    rw [ByteArray.size_append, ByteArray.size_append] at h
    show (putEdges (b ++ sgnStr e.f0 ++ sgnStr e.f1) t).size ≤ _
    rw [List.length_cons]
    omega
theorem putVertex_size (b : ByteArray) (v : S53) : (putVertex b v).size ≤ b.size + 30 + 20 * v.f2.length := by
  have h := putEdges_size v.f2 (b ++ sgnStr v.f0 ++ sgnStr v.f1 ++ numStr v.f2.length)
  have h1 := sgn_size v.f0
  have h2 := sgn_size v.f1
  have h3 := numStr_size v.f2.length
  rw [ByteArray.size_append, ByteArray.size_append, ByteArray.size_append] at h
  unfold putVertex
  omega

set_option maxHeartbeats 4000000 in
set_option maxRecDepth 100000 in
theorem vertex_calls (w0 w : World) (g : Nat) (b : ByteArray) (v : S53) (A : Option Addr) (c : Nat) (hr : Kd.C k67 w0 A v.f2.length v.f2) (hv : VertIn v) (hI : IsW w0 w g b) (hB : Below w0.heap.size w0 w)
    (hl : b.size + 20 * v.f2.length ≤ 140737488350000) :
    Calls Try.prog 32 #[.pointer (some ⟨g, 0, none⟩), .agg #[.int .i64 v.f0, .int .i64 v.f1, .slice A v.f2.length c]] w fun e w' => e = .returned (.tuple #[]) ∧ IsW w0 w' g (putVertex b v) ∧ Below w0.heap.size w0 w' ∧ Keeps w w' := by
  obtain ⟨id, val, es⟩ := v
  obtain ⟨hv0, hv1, hve⟩ := hv
  simp only at hr hv0 hv1 hve hl ⊢
  have hmax : es.length ≤ 9223372036854775807 := hr.2.1
  have HR := Aside0.mk hr
  have HI := Aside0.mk hI
  have HB := Aside0.mk hB
  have HV0 := Aside0.mk hv0
  have HV1 := Aside0.mk hv1
  have HVE := Aside0.mk hve
  have z0 := sgn_size id
  have z1 := sgn_size val
  have z2 := numStr_size es.length
  clear hr hI hB hv0 hv1 hve
  have hk0 := Keeps.alloc w (.cells #[.int .i64 id, .int .i64 val, .slice A es.length c] 53)
  go_enter Try.func32, Try.ntmps32
  go_wp2_with fail
  refine (signed_calls w0 _ g b id (HI.out.below (below_alloc (Below.refl _ _) _)) (HB.out.alloc HB.out.size _) HV0.out (by omega)).mono ?_
  rintro e w1 ⟨rfl, hI1, hB1, hK1⟩
  have hbx1 := hK1 w.heap.size _ 53 (by decide) (by decide) (blk_new w (.cells #[.int .i64 id, .int .i64 val, .slice A es.length c] 53))
  have hc1 : w1.cell? ⟨w.heap.size, 1, none⟩ = some (.int .i64 val) := (blk_cell hbx1 1).trans rfl
  have HI1 := Aside0.mk hI1
  have HB1 := Aside0.mk hB1
  have HBX1 := Aside0.mk hbx1
  have HK1 := Aside0.mk (hk0.trans hK1)
  clear hI1 hB1 hbx1 hK1 hk0
  go_wp2_with fail
  refine (signed_calls w0 _ g _ val HI1.out HB1.out HV1.out (by rw [ByteArray.size_append]; omega)).mono ?_
  rintro e w2 ⟨rfl, hI2, hB2, hK2⟩
  have hbx2 := hK2 w.heap.size _ 53 (by decide) (by decide) HBX1.out
  have hc2 : w2.cell? ⟨w.heap.size, 2, none⟩ = some (.slice A es.length c) := (blk_cell hbx2 2).trans rfl
  have HI2 := Aside0.mk hI2
  have HB2 := Aside0.mk hB2
  have HBX2 := Aside0.mk hbx2
  have HK2 := Aside0.mk (HK1.out.trans hK2)
  clear hI2 hB2 hbx2 hK2
  go_wp2_with fail
  refine (count_calls w0 _ g _ es.length HI2.out HB2.out hmax (by rw [ByteArray.size_append, ByteArray.size_append]; omega)).mono ?_
  rintro e w3 ⟨rfl, hI3, hB3, hK3⟩
  have hbx3 := hK3 w.heap.size _ 53 (by decide) (by decide) HBX2.out
  have hc3 : w3.cell? ⟨w.heap.size, 2, none⟩ = some (.slice A es.length c) := (blk_cell hbx3 2).trans rfl
  have HI3 := Aside0.mk hI3
  have HB3 := Aside0.mk hB3
  have HK3 := Aside0.mk (HK2.out.trans hK3)
  clear hI3 hB3 hbx3 hK3
  go_wp2_with fail
  go_loopw [22] (fun v22 wr => ∃ k : Nat, v22 = .int .i64 (k : Int) ∧ k ≤ es.length ∧ Aside0 (IsW w0 wr g (putEdges (b ++ sgnStr id ++ sgnStr val ++ numStr es.length) (es.take k))) ∧ Aside0 (Below w0.heap.size w0 wr) ∧ Aside0 (Keeps w wr)) (fun v22 _ => (es.length - (intOf v22)).toNat)
  case atStart => exact ⟨0, rfl, Nat.zero_le _, HI3, HB3, HK3⟩
  case round =>
    obtain ⟨k, rfl, hk, HIr, HBr, HKr⟩ := hrel
    rcases Nat.lt_or_ge k es.length with hlt | hge
    · have hlt1 : ((k : Int) < (es.length : Int)) = True := eq_true (by omega)
      have hsz := putEdges_size (es.take k) (b ++ sgnStr id ++ sgnStr val ++ numStr es.length)
      rw [ByteArray.size_append, ByteArray.size_append, ByteArray.size_append, List.length_take_of_le hk] at hsz
      obtain ⟨ad, hA, hx0, hx1⟩ := at_T67 HR.out (k : Int) (by omega) (by omega)
      subst hA
      replace hx0 := (HBr.out.cell (World.block_lt_of_cell? _ _ hx0)).trans hx0
      replace hx1 := (HBr.out.cell (World.block_lt_of_cell? _ _ hx1)).trans hx1
      have hE := HVE.out _ (getD_mem es k z67 hlt)
      generalize hed : rd_T67 es (k : Int) = ed at hx0 hx1
      have hed' : es.getD k z67 = ed := hed
      rw [hed'] at hE
      rw [Int.toNat_natCast] at hx0 hx1
      obtain ⟨et, ew⟩ := ed
      have HE0 := Aside0.mk hE.1
      have HE1 := Aside0.mk hE.2
      simp only at hx0 hx1 HE0 HE1
      clear hE
      have HED := Aside0.mk hed'
      clear hed hed'
      go_wp2_with fail
      refine (signed_calls w0 _ g _ et (HIr.out.below (below_alloc (Below.refl _ _) _)) (HBr.out.alloc HBr.out.size _) HE0.out (by omega)).mono ?_
      rintro e w4 ⟨rfl, hI4, hB4, hK4⟩
      have hbx4 := hK4 wr.heap.size _ 67 (by decide) (by decide) (blk_new wr (.cells #[.int .i64 et, .int .i64 ew] 67))
      have hc4 : w4.cell? ⟨wr.heap.size, 1, none⟩ = some (.int .i64 ew) := (blk_cell hbx4 1).trans rfl
      have HI4 := Aside0.mk hI4
      have HB4 := Aside0.mk hB4
      have HK4 := Aside0.mk ((HKr.out.trans (Keeps.alloc wr (.cells #[.int .i64 et, .int .i64 ew] 67))).trans hK4)
      clear hI4 hB4 hbx4 hK4
      have s4 := sgn_size et
      go_wp2_with fail
      refine (signed_calls w0 _ g _ ew HI4.out HB4.out HE1.out (by rw [ByteArray.size_append]; omega)).mono ?_
      rintro e w5 ⟨rfl, hI5, hB5, hK5⟩
      have HI5 := Aside0.mk hI5
      have HB5 := Aside0.mk hB5
      have HK5 := Aside0.mk (HK4.out.trans hK5)
      clear hI5 hB5 hK5
      go_wp2_with fail
      go_roundw
      case rel =>
        refine ⟨k + 1, by go_num, by omega, ⟨?_⟩, HB5, HK5⟩
        rw [take_one es k z67 hlt, HED.out, putEdges_snoc]
        exact HI5.out
      case measure => simp [intOf]; omega
    · have hk1 : k = es.length := by omega
      subst hk1
      go_wp2_with fail
      go_end0
      refine ⟨rfl, ?_, HBr.out, HKr.out⟩
      have h := HIr.out
      rw [List.take_length] at h
      exact h

/-- The most bytes that vertices take. -/
def need (l : List S53) : Nat := l.foldr (fun v n => 30 + 20 * v.f2.length + n) 0
theorem need_snoc (l : List S53) (v : S53) : need (l ++ [v]) = need l + (30 + 20 * v.f2.length) := by
  induction l with
  | nil => simp [need]
  | cons a t ih => simp only [need, List.cons_append, List.foldr_cons] at ih ⊢; omega
theorem need_take (l : List S53) (k : Nat) (h : k < l.length) : need (l.take (k + 1)) = need (l.take k) + (30 + 20 * (l.getD k z53).f2.length) := by
  rw [take_one l k z53 h, need_snoc]
theorem need_le (l : List S53) : ∀ k, need (l.take k) ≤ need l := by
  induction l with
  | nil => intro k; simp
  | cons a t ih =>
    intro k
    cases k with
    | zero => exact Nat.zero_le _
    | succ k =>
      have := ih k
      simp only [need, List.take_succ_cons, List.foldr_cons] at this ⊢
      omega
theorem putVerts_size (l : List S53) : ∀ b : ByteArray, (putVerts b l).size ≤ b.size + need l := by
  induction l with
  | nil => intro b; simp [putVerts]
  | cons v t ih =>
    intro b
    have h := ih (putVertex b v)
    have h1 := putVertex_size b v
    show (putVerts (putVertex b v) t).size ≤ _
    simp only [need, List.foldr_cons] at h ⊢
    omega

set_option maxHeartbeats 4000000 in
set_option maxRecDepth 100000 in
theorem put_calls (w0 w : World) (g : Nat) (b : ByteArray) (G : List S53) (A : Option Addr) (c : Nat) (hr : Kd.C k53 w0 A G.length G) (hv : ∀ v ∈ G, VertIn v) (hI : IsW w0 w g b) (hB : Below w0.heap.size w0 w)
    (hl : b.size + need G ≤ 140737488340000) :
    Calls Try.prog 23 #[.pointer (some ⟨g, 0, none⟩), .agg #[.slice A G.length c]] w fun e w' => e = .returned (.tuple #[]) ∧ IsW w0 w' g (putVerts (b ++ numStr G.length) G) ∧ Below w0.heap.size w0 w' ∧ Keeps w w' := by
  have hmax : G.length ≤ 9223372036854775807 := hr.2.1
  have HR := Aside0.mk hr
  have HI := Aside0.mk hI
  have HB := Aside0.mk hB
  have HV := Aside0.mk hv
  have z2 := numStr_size G.length
  clear hr hI hB hv
  have hk0 := Keeps.alloc w (.cells #[.slice A G.length c] 24)
  go_enter Try.func23, Try.ntmps23
  go_wp2_with fail
  refine (count_calls w0 _ g _ G.length (HI.out.below (below_alloc (Below.refl _ _) _)) (HB.out.alloc HB.out.size _) hmax (by omega)).mono ?_
  rintro e w3 ⟨rfl, hI3, hB3, hK3⟩
  have hbx3 := hK3 w.heap.size _ 24 (by decide) (by decide) (blk_new w (.cells #[.slice A G.length c] 24))
  have hc3 : w3.cell? ⟨w.heap.size, 0, none⟩ = some (.slice A G.length c) := (blk_cell hbx3 0).trans rfl
  have HI3 := Aside0.mk hI3
  have HB3 := Aside0.mk hB3
  have HK3 := Aside0.mk (hk0.trans hK3)
  clear hI3 hB3 hbx3 hK3 hk0
  go_wp2_with fail
  go_loopw [14] (fun v14 wr => ∃ k : Nat, v14 = .int .i64 (k : Int) ∧ k ≤ G.length ∧ Aside0 (IsW w0 wr g (putVerts (b ++ numStr G.length) (G.take k))) ∧ Aside0 (Below w0.heap.size w0 wr) ∧ Aside0 (Keeps w wr)) (fun v14 _ => (G.length - (intOf v14)).toNat)
  case atStart => exact ⟨0, rfl, Nat.zero_le _, HI3, HB3, HK3⟩
  case round =>
    obtain ⟨k, rfl, hk, HIr, HBr, HKr⟩ := hrel
    rcases Nat.lt_or_ge k G.length with hlt | hge
    · have hlt1 : ((k : Int) < (G.length : Int)) = True := eq_true (by omega)
      have hsz := putVerts_size (G.take k) (b ++ numStr G.length)
      rw [ByteArray.size_append] at hsz
      have hn1 := need_take G k hlt
      have hn2 := need_le G (k + 1)
      obtain ⟨ad, A2, c2, hA, hx0, hx1, hx2, hl2, hr2⟩ := at_T53 HR.out (k : Int) (by omega) (by omega)
      subst hA
      have HR2 := Aside0.mk hr2
      clear hr2
      replace hx0 := (HBr.out.cell (World.block_lt_of_cell? _ _ hx0)).trans hx0
      replace hx1 := (HBr.out.cell (World.block_lt_of_cell? _ _ hx1)).trans hx1
      replace hx2 := (HBr.out.cell (World.block_lt_of_cell? _ _ hx2)).trans hx2
      have hE := HV.out _ (getD_mem G k z53 hlt)
      have hed' : G.getD k z53 = rd_T53 G (k : Int) := rfl
      rw [hed'] at hE hn1
      generalize rd_T53 G (k : Int) = ed at *
      rw [Int.toNat_natCast] at hx0 hx1 hx2
      have HE := Aside0.mk hE
      have HED := Aside0.mk hed'
      clear hE hed'
      go_wp2_with fail
      refine (vertex_calls w0 _ g _ ed A2 c2 HR2.out HE.out (HIr.out.below (below_alloc (Below.refl _ _) _)) (HBr.out.alloc HBr.out.size _) (by omega)).mono ?_
      rintro e w4 ⟨rfl, hI4, hB4, hK4⟩
      have HI4 := Aside0.mk hI4
      have HB4 := Aside0.mk hB4
      have HK4 := Aside0.mk ((HKr.out.trans (Keeps.alloc wr _)).trans hK4)
      clear hI4 hB4 hK4
      go_wp2_with fail
      go_roundw
      case rel =>
        refine ⟨k + 1, by go_num, by omega, ⟨?_⟩, HB4, HK4⟩
        rw [take_one G k z53 hlt, HED.out, putVerts_snoc]
        exact HI4.out
      case measure => simp [intOf]; omega
    · have hk1 : k = G.length := by omega
      subst hk1
      go_wp2_with fail
      go_end0
      refine ⟨rfl, ?_, HBr.out, HKr.out⟩
      have h := HIr.out
      rw [List.take_length] at h
      exact h
end Go.Proofs.Ytbeefbhoccdicaa.PutG
