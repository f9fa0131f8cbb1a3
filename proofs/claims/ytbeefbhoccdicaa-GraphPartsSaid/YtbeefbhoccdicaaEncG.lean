/- A graph is encoded: walked. -/
import Derived.Test.YtbeefbhoccdicaaCheckG
import Derived.Test.YtbeefbhoccdicaaPutG
namespace Go.Proofs.Ytbeefbhoccdicaa.EncG
open Go.RowKit Go.Shelf Go.Proofs.YtbeefbhoccdicaaW.PrintWords Go.Proofs.YtbeefbhoccdicaaW.PrintLast Go.Proofs.YtbeefbhoccdicaaW.PrintMore Go.Proofs.Ytbeefbhoccdicaa.QGraphReads Go.Proofs.Ytbeefbhoccdicaa.WireNum Go.Proofs.Ytbeefbhoccdicaa.WireRead Go.Proofs.Ytbeefbhoccdicaa.Writer Go.Proofs.Ytbeefbhoccdicaa.PutG Go.Proofs.Ytbeefbhoccdicaa.FindG Go.Proofs.Ytbeefbhoccdicaa.EdgesG Go.Proofs.Ytbeefbhoccdicaa.AllG Go.Proofs.Ytbeefbhoccdicaa.CheckG
set_option linter.unusedVariables false

/-- A graph's bytes. -/
def graphBytes (l : List S53) : ByteArray := putVerts (⟨#[]⟩ ++ numStr l.length) l

theorem need_all (l : List S53) : need l = 30 * l.length + 20 * (allOf l).length := by
  rw [allOf_length]
  induction l with
  | nil => rfl
  | cons v t ih =>
    have h1 : need (v :: t) = 30 + 20 * v.f2.length + need t := rfl
    rw [h1, ih, List.foldr_cons, List.length_cons]
    omega

set_option maxHeartbeats 4000000 in
set_option maxRecDepth 100000 in
theorem encode_calls (w : World) (l : List S53) (A : Option Addr) (c : Nat) (r : Int) (hr : Kd.C k53 w A l.length l) (hv : ∀ v ∈ l, VertIn v) (hk : Checks l r) (hs : r = 0 → (allOf l).length ≤ 9223372036854775807) :
    Calls Try.prog 14 #[.agg #[.slice A l.length c]] w fun e w' => e = .returned (.tuple #[.string (if r = 0 then graphBytes l else ⟨#[]⟩), .int .i64 r]) ∧ Below w.heap.size w w' := by
  have HR := Aside0.mk hr
  have HV := Aside0.mk hv
  have HK := Aside0.mk hk
  have HS := Aside0.mk hs
  clear hr hv hk hs
  go_enter Try.func14, Try.ntmps14
  go_wp2_with fail
  refine (check_calls _ l A c (Kd.C_alloc HR.out _)).mono ?_
  rintro e w1 ⟨⟨s, rfl, hs⟩, hb⟩
  obtain rfl := hs.one HK.out
  have hb1 : w1.cell? ⟨w.heap.size, 0, none⟩ = some (.slice A l.length c) := (blk_cell (blk_below (blk_new w (.cells #[.slice A l.length c] 24)) hb) 0).trans rfl
  have HB := Aside0.mk (below_then (below_alloc (Below.refl _ _) _) (by rw [World.size_alloc]; omega) hb)
  clear hb hs
  by_cases h0 : s = 0
  · subst h0
    have hn := HS.out rfl
    have hsm : l.length ≤ 256 ∧ (allOf l).length ≤ 2048 := by
      rcases HK.out with ⟨_, h⟩ | ⟨_, _, h⟩ | ⟨_, _, _, h⟩ | ⟨_, _, _, _, h⟩ | ⟨h1, _, h2, _, _⟩
      · cases h
      · cases h
      · cases h
      · cases h
      · exact ⟨h1, by rw [wrap64] at h2; omega⟩
    clear HK HS
    go_wp2_with fail
    refine (new_calls w1 w1 (Below.refl _ _)).mono ?_
    rintro e w2 ⟨g, rfl, hI2, hB2, hK2⟩
    have hbx : w2.cell? ⟨w.heap.size, 0, none⟩ = some (.slice A l.length c) := (hB2.cell (World.block_lt_of_cell? _ _ hb1)).trans hb1
    have HI2 := Aside0.mk hI2
    have HB2 := Aside0.mk hB2
    clear hI2 hB2 hK2 hb1
    go_wp2_with fail
    refine (put_calls w1 w2 g _ l A c (Kd.C_below HR.out HB.out) HV.out HI2.out HB2.out (by rw [need_all]; have : (⟨#[]⟩ : ByteArray).size = 0 := rfl; omega)).mono ?_
    rintro e w3 ⟨rfl, hI3, hB3, hK3⟩
    have HI3 := Aside0.mk hI3
    have HB3 := Aside0.mk hB3
    clear hI3 hB3 hK3
    go_wp2_with fail
    refine (all_calls w1 w3 g _ HI3.out).mono ?_
    rintro e w4 ⟨rfl, rfl⟩
    go_wp2_with fail
    go_ret2
    exact ⟨rfl, below_then HB.out HB.out.size HB3.out⟩
  · go_wp2_with fail
    go_ret2
    exact ⟨rfl, HB.out⟩
end Go.Proofs.Ytbeefbhoccdicaa.EncG
