/- A graph is decoded: walked. -/
import Derived.Test.YtbeefbhoccdicaaTakeG
import Derived.Laws.ResultCell
namespace Go.Proofs.Ytbeefbhoccdicaa.DecG
open Go.RowKit Go.Shelf Go.Proofs.YtbeefbhoccdicaaW.PrintWords Go.Proofs.YtbeefbhoccdicaaW.PrintLast Go.Proofs.YtbeefbhoccdicaaW.PrintMore Go.Proofs.Ytbeefbhoccdicaa.QGraphReads Go.Proofs.Ytbeefbhoccdicaa.WireNum Go.Proofs.Ytbeefbhoccdicaa.WireRead Go.Proofs.Ytbeefbhoccdicaa.Writer Go.Proofs.Ytbeefbhoccdicaa.PutG Go.Proofs.Ytbeefbhoccdicaa.FindG Go.Proofs.Ytbeefbhoccdicaa.EdgesG Go.Proofs.Ytbeefbhoccdicaa.AllG Go.Proofs.Ytbeefbhoccdicaa.CheckG Go.Proofs.Ytbeefbhoccdicaa.EncG Go.Proofs.Ytbeefbhoccdicaa.RdSpec Go.Proofs.Ytbeefbhoccdicaa.TakeG
set_option linter.unusedVariables false

/-- The error behind the end: bytes that are left are one. -/
def endE (s : ByteArray) (p : Nat) (r : Int) : Int := if p < s.size ∧ r = 0 then 5 else r
theorem wire_end (s : ByteArray) (p : Nat) (r : Int) (hs : Sz s) (hp : p ≤ s.size) : wire_Reader_End.f s p r = some (endE s p r, s, (p : Int), endE s p r) := by
  unfold wire_Reader_End.f wire_Reader_Left.f endE
  unfold Sz at hs
  simp only [Option.bind_some]
  rw [wrap_in (by unfold In; omega)]
  by_cases h : p < s.size
  · rw [if_pos (by omega)]
    by_cases hr : r = 0
    · subst hr
      simp [wire_Reader_Fail.f, wire_Reader_Err.f, h]
    · simp [wire_Reader_Fail.f, wire_Reader_Err.f, h, hr]
  · rw [if_neg (by omega)]
    simp [wire_Reader_Err.f, h]

theorem vertsS_p (s : ByteArray) : ∀ (n : Nat) (t : St) (acc : List (Int × Int × List (Int × Int))), t.p ≤ s.size → (vertsS s n t acc).2.p ≤ s.size := by
  intro n
  induction n with
  | zero => intro t acc h; exact h
  | succ n ih =>
    intro t acc h
    rw [vertsS]
    split
    · exact ih _ _ (vertS_p s t h)
    · exact h
theorem takeS_p (s : ByteArray) (t : St) (h : t.p ≤ s.size) : (takeS s t).2.p ≤ s.size := vertsS_p s _ _ _ (cntS_p s 256 t h)

/-- What decoding answers: the graph where there is no error, else none. -/
def decL (s : ByteArray) : List S53 := (takeS s ⟨0, 0⟩).1.map v53
def Decs (s : ByteArray) (x : Int) : Prop := ∃ r, TakeEnd (decL s) (takeS s ⟨0, 0⟩).2.e r ∧ x = endE s (takeS s ⟨0, 0⟩).2.p r

theorem S_lower {α : Type} {d : Kd α} {e : Nat} {w : World} {base base' : Nat} {ok : Nat → Prop} {v : Value} {xs : List α} (h : Kd.S d e w base ok v xs) (hb : base' ≤ base) : Kd.S d e w base' ok v xs := by
  obtain ⟨f, h⟩ := h
  exact ⟨f, Kd.R_lower h hb⟩

set_option maxHeartbeats 4000000 in
set_option maxRecDepth 100000 in
theorem decode_calls (w : World) (s : ByteArray) (hs : Sz s) :
    Calls Try.prog 21 #[.string s] w fun e w' => (∃ v x, e = .returned (.tuple #[.agg #[v], .int .i64 x]) ∧ Decs s x ∧ Kd.S k53 53 w' w.heap.size (fun _ => True) v (if x = 0 then decL s else [])) ∧ Below w.heap.size w w' := by
  have hlp := takeS_p s ⟨0, 0⟩ (Nat.zero_le _)
  generalize hw1 : w.alloc (.cells #[.slice none 0 0] 24) = w1
  have hz1 : w1.heap.size = w.heap.size + 1 := by rw [← hw1, World.size_alloc]
  have hb1 : Below w.heap.size w w1 := by rw [← hw1]; exact below_alloc (Below.refl _ _) _
  have HX1 : Aside0 (w1.heap[w.heap.size]? = some (.cells #[.slice none 0 0] 24 (0, 0))) := ⟨by rw [← hw1]; exact blk_new w _⟩
  have HB1 := Aside0.mk hb1
  clear hb1
  go_enter Try.func21, Try.ntmps21
  go_wp2_with fail
  refine (wire_NewReader.calls s s 0 0 w1 w1 (Below.refl _ _) rfl).mono ?_
  rintro e w2 ⟨g, rfl, hI2, hB2, _⟩
  have HI2 := Aside0.mk hI2
  have HB2 := Aside0.mk hB2
  clear hI2 hB2 hw1
  go_wp2_with fail
  refine (take_calls w1 w2 g s ⟨0, 0⟩ hs (Nat.zero_le _) HI2.out HB2.out).mono ?_
  rintro e w3 ⟨v, r, rfl, hO3, hE, hI3, hB3, hK3⟩
  have HE := Aside0.mk (show TakeEnd (decL s) (takeS s ⟨0, 0⟩).2.e r from hE)
  obtain ⟨L, hL⟩ : ∃ L, decL s = L := ⟨_, rfl⟩
  rw [show (takeS s ⟨0, 0⟩).1.map v53 = L from hL] at hO3
  have HLL := Aside0.mk hL
  clear hL hE
  obtain ⟨A, c, hA, hcl, hC⟩ := Kd.S_reads hO3
  subst hA
  have HO3 := Aside0.mk hO3
  have HI3 := Aside0.mk hI3
  have HB3 := Aside0.mk hB3
  have HZ := Aside0.mk (show w1.heap.size ≤ w2.heap.size from HB2.out.size)
  clear hO3 hI3 hB3 hK3 hC hcl
  have hxx := wire_end s (takeS s ⟨0, 0⟩).2.p r hs hlp
  have HDX : Aside0 (Decs s (endE s (takeS s ⟨0, 0⟩).2.p r)) := ⟨⟨r, HE.out, rfl⟩⟩
  generalize endE s (takeS s ⟨0, 0⟩).2.p r = x at hxx HDX
  generalize (takeS s ⟨0, 0⟩).2.p = pp at HI3 hxx
  have HXX := Aside0.mk hxx
  clear hxx HE hlp
  go_wp2_with fail
  have hgA := HI3.out.ge
  refine (wire_Reader_End.calls g s pp r x s pp x w1 _ (HI3.out.alloc _) (HB3.out.alloc HB3.out.size _) HXX.out).mono ?_
  rintro e w4 ⟨rfl, hI4, hB4, hK4⟩
  have hx5 := KeepBut.blk hK4 (blk_new w3 (.cells #[.slice A L.length c] 24)) (Nat.ne_of_gt (show g < w3.heap.size from IsS147.lt HI3.out)) (by simp)
  have hc5 : w4.cell? ⟨w3.heap.size, 0, none⟩ = some (.slice A L.length c) := (blk_cell hx5 0).trans rfl
  have HX5 := Aside0.mk (show w4.heap[w.heap.size]? = some (.cells #[.slice none 0 0] 24 (0, 0)) from (hB4.block w.heap.size (by omega)).trans HX1.out)
  have hc6 : w4.cell? ⟨w.heap.size, 0, none⟩ = some (.slice none 0 0) := (blk_cell HX5.out 0).trans rfl
  have hf6 := blk_frozen HX5.out 0
  have HO4 := Aside0.mk (Kd.S_mono (ok' := fun _ => True) (Kd.S_keep (IsS147.apartS (HI3.out.alloc _) (Kd.S_alloc HO3.out _) (by decide)) hK4 (fun _ h => h.2)) (fun _ _ => trivial))
  have HB4 := Aside0.mk (below_then HB1.out (by omega) hB4)
  clear hI4 hB4 hK4 hx5 HO3 HI3 HB3
  by_cases h0 : x = 0
  · subst h0
    go_wp2_with fail
    refine bodyPost_ret (v := .tuple #[.agg #[.slice A L.length c], .int .i64 0]) (by rw [results_cell_tmp rfl]; go_simp; try rfl) rfl ?_
    refine ⟨⟨_, 0, rfl, HDX.out, ?_⟩, below_set HB4.out (Nat.le_refl _)⟩
    rw [if_pos rfl, HLL.out]
    exact S_lower (base := w2.heap.size) (Kd.S_mono (Kd.S_far (p := ⟨w.heap.size, 0, none⟩) (Kd.S_types HO4.out HX5.out (by decide)) (fun _ hk => hk.2) _) (fun _ _ => trivial)) (by have := HZ.out; omega)
  · have hxn : (x != 0) = true := bne_iff_ne.2 h0
    have H0 := Aside0.mk h0
    clear h0
    go_wp2_with fail
    refine bodyPost_ret (v := .tuple #[.agg #[.slice none 0 0], .int .i64 x]) (by rw [results_cell_tmp rfl]; go_simp; try rfl) rfl ?_
    refine ⟨⟨_, x, rfl, HDX.out, ?_⟩, below_set HB4.out (Nat.le_refl _)⟩
    rw [if_neg H0.out]
    exact Kd.S_nil _ _ _ _ _
end Go.Proofs.Ytbeefbhoccdicaa.DecG
