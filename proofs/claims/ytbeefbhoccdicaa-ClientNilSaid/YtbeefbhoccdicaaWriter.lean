/- The Writer of package wire, walked: what it holds grows by just the bytes that are put. -/
import Derived.Test.YtbeefbhoccdicaaWireRead
import Derived.Lib.Hide
namespace Go.Proofs.Ytbeefbhoccdicaa.Writer
open Go.RowKit Go.Proofs.YtbeefbhoccdicaaW.PrintWords Go.Proofs.YtbeefbhoccdicaaW.PrintLast Go.Proofs.YtbeefbhoccdicaaW.PrintMore Go.Proofs.Ytbeefbhoccdicaa.QGraphReads Go.Proofs.Ytbeefbhoccdicaa.WireNum Go.Proofs.Ytbeefbhoccdicaa.WireRead
attribute [local go_sem] max2_int min2_int max_two min_two
set_option linter.unusedVariables false

/-- Block g is a writer (since w0) that holds these bytes. -/
def IsW (w0 W : World) (g : Nat) (b : ByteArray) : Prop :=
  w0.heap.size ≤ g ∧ ∃ v, W.heap[g]? = some (.cells #[v] 144 (0, 0)) ∧ W.ownsRow w0.heap.size 5 1 v (bytesOf b).length (nums .u8 (bytesOf b))

theorem bytesOf_append (a b : ByteArray) : bytesOf (a ++ b) = bytesOf a ++ bytesOf b := by simp [bytesOf]

theorem IsW.below {w0 W w1 : World} {g : Nat} {b : ByteArray} (h : IsW w0 W g b) (hb : Below W.heap.size W w1) : IsW w0 w1 g b := by
  obtain ⟨hg, v, h1, h2⟩ := h
  exact ⟨hg, v, blk_below h1 hb, pw_own_below h2 hb⟩

/-- Blocks that are neither a writer nor a row of bytes stand. -/
def Keeps (w w1 : World) : Prop := ∀ (i : Nat) (cs : Array Value) (t : TypeId), t ≠ 144 → t ≠ 5 → w.heap[i]? = some (.cells cs t (0, 0)) → w1.heap[i]? = some (.cells cs t (0, 0))
theorem Keeps.refl (w : World) : Keeps w w := fun _ _ _ _ _ h => h
theorem Keeps.trans {w w1 w2 : World} (h : Keeps w w1) (k : Keeps w1 w2) : Keeps w w2 := fun i cs t h1 h2 h3 => k i cs t h1 h2 (h i cs t h1 h2 h3)
theorem Keeps.below {w w1 : World} (h : Below w.heap.size w w1) : Keeps w w1 := fun _ _ _ _ _ h3 => blk_below h3 h
theorem Keeps.alloc (w : World) (o : Obj) : Keeps w (w.alloc o) := fun _ _ _ _ _ h3 => blk_alloc h3 o
theorem Keeps.grown {w w1 : World} {base size n : Nat} {v : Value} {xs : List Value} (hO : w.ownsRow base 5 size v n xs) (hg : w.grownBy w1 v.ownBlock) : Keeps w w1 := by
  intro i cs t _ h2 h3
  refine blk_grown h3 hg ?_
  intro hv
  obtain ⟨c, hc⟩ := own_typed hO i hv.symm
  rw [hc] at h3
  injection h3 with h3
  injection h3 with _ h3 _
  exact h2 h3.symm
theorem Keeps.set {w : World} {g : Nat} {c : Array Value} (hb : w.heap[g]? = some (.cells c 144 (0, 0))) (j : Nat) (u : Value) : Keeps w (w.setCell ⟨g, j, none⟩ u) := by
  intro i cs t h1 _ h3
  exact blk_far h3 (by intro hi; have hi : i = g := hi; rw [hi, hb] at h3; injection h3 with h3; injection h3 with _ h3 _; exact h1 h3.symm) u

theorem new_calls (w0 w : World) (hB : Below w0.heap.size w0 w) : Calls Try.prog 22 #[] w fun e w' => ∃ g, e = .returned (.pointer (some ⟨g, 0, none⟩)) ∧ IsW w0 w' g ⟨#[]⟩ ∧ Below w0.heap.size w0 w' ∧ Keeps w w' := by
  go_enter Try.func22, Try.ntmps22
  go_wp2
  go_ret
  exact ⟨_, rfl, ⟨hB.size, _, blk_new w _, own_nil _ _ _ _⟩, hB.alloc hB.size _, Keeps.alloc _ _⟩

set_option maxHeartbeats 1000000 in
theorem bytes_calls (w0 w : World) (g : Nat) (b s : ByteArray) (hI : IsW w0 w g b) (hB : Below w0.heap.size w0 w) (hl : b.size + s.size ≤ 140737488355328) :
    Calls Try.prog 147 #[.pointer (some ⟨g, 0, none⟩), .string s] w fun e w' => e = .returned (.tuple #[]) ∧ IsW w0 w' g (b ++ s) ∧ Below w0.heap.size w0 w' ∧ Keeps w w' := by
  obtain ⟨hg, v, hblk, hO⟩ := hI
  have hlen : (bytesOf b).length + s.size ≤ 140737488355328 := by rw [bytesOf_length]; exact hl
  obtain ⟨A, c, rfl⟩ := own_slice hO
  have hne := own_ne hO hblk (by decide)
  have hc : w.cell? ⟨g, 0, none⟩ = some (.slice A (bytesOf b).length c) := (blk_cell hblk 0).trans rfl
  have hf := blk_frozen hblk 0
  have HO := Aside0.mk hO
  have HBlk := Aside0.mk hblk
  have HNe := Aside0.mk hne
  have HB := Aside0.mk hB
  clear hO hblk hne hB
  go_enter Try.func147, Try.ntmps147
  go_wp2_with (at_builtin; refine print_append_str (w0 := w0) w0.heap.size rfl (.tmp 10) (.tmp 11) 142 9 5 rfl Try.underlying142 Try.underlying9 info5 _ (bytesOf b) s rfl rfl HO.out HB.out HB.out.size hlen ?_; intro v1 w1 hO1 hB1 hg1; obtain ⟨A1, c1, rfl⟩ := own_slice hO1; have hblk1 := blk_grown HBlk.out hg1 HNe.out; have hne1 := own_ne hO1 hblk1 (by decide); have hc1 : w1.cell? ⟨g, 0, none⟩ = some (.slice A (bytesOf b).length c) := (blk_cell hblk1 0).trans rfl; have hf1 := blk_frozen hblk1 0; have HO1 := Aside0.mk hO1; have HB1 := Aside0.mk hB1; have HG1 := Aside0.mk hg1; have HBlk1 := Aside0.mk hblk1; have HNe1 := Aside0.mk hne1; clear hO1 hB1 hg1 hblk1 hne1)
  go_end0
  refine ⟨rfl, ⟨hg, _, blk_set HBlk1.out 0 _, ?_⟩, HB1.out.setCell hg _, (Keeps.grown HO.out HG1.out).trans (Keeps.set HBlk1.out 0 _)⟩
  have h2 := own_setCell (p := ⟨g, 0, none⟩) HO1.out HNe1.out (.slice A1 ((bytesOf b).length + (bytesOf s).length) c1)
  rw [bytesOf_append]
  rw [List.length_append] at h2 ⊢
  exact h2

theorem number_calls (w0 w : World) (g : Nat) (b : ByteArray) (n : Int) (hI : IsW w0 w g b) (hB : Below w0.heap.size w0 w) (hn : Un n) (hl : b.size ≤ 140737488355000) :
    Calls Try.prog 109 #[.pointer (some ⟨g, 0, none⟩), .int .u64 n] w fun e w' => e = .returned (.tuple #[]) ∧ IsW w0 w' g (b ++ numStr n.toNat) ∧ Below w0.heap.size w0 w' ∧ Keeps w w' := by
  have hs := numStr_size n.toNat
  have HN := Aside0.mk (wire_number hn)
  have HI := Aside0.mk hI
  have HB := Aside0.mk hB
  clear hI hB
  go_enter Try.func109, Try.ntmps109
  go_wp2_with fail
  refine (wire_Number.calls 10 n _ _ HN.out).mono ?_
  rintro e w1 ⟨rfl, hb1⟩
  have HK1 := Aside0.mk (Keeps.below hb1)
  have HI1 := Aside0.mk (HI.out.below hb1)
  have HB1 := Aside0.mk (below_then HB.out HB.out.size hb1)
  clear hb1
  go_wp2_with fail
  refine (bytes_calls w0 _ g b _ HI1.out HB1.out (by omega)).mono ?_
  rintro e w2 ⟨rfl, hI2, hB2, hK2⟩
  go_wp2
  go_end0
  exact ⟨rfl, hI2, hB2, HK1.out.trans hK2⟩

theorem signed_calls (w0 w : World) (g : Nat) (b : ByteArray) (z : Int) (hI : IsW w0 w g b) (hB : Below w0.heap.size w0 w) (hz : In z) (hl : b.size ≤ 140737488355000) :
    Calls Try.prog 84 #[.pointer (some ⟨g, 0, none⟩), .int .i64 z] w fun e w' => e = .returned (.tuple #[]) ∧ IsW w0 w' g (b ++ sgnStr z) ∧ Below w0.heap.size w0 w' ∧ Keeps w w' := by
  have HF := Aside0.mk (wire_fold hz)
  have HU := Aside0.mk (fold_un hz)
  have HI := Aside0.mk hI
  have HB := Aside0.mk hB
  clear hI hB
  go_enter Try.func84, Try.ntmps84
  go_wp2_with fail
  refine (wire_Fold.calls z _ _ HF.out).mono ?_
  rintro e w1 ⟨rfl, hd⟩
  have HI1 := Aside0.mk (HI.out.below hd.below)
  have HB1 := Aside0.mk (below_then HB.out HB.out.size hd.below)
  have HK1 := Aside0.mk (Keeps.below hd.below)
  clear hd
  go_wp2_with fail
  refine (number_calls w0 _ g b _ HI1.out HB1.out HU.out hl).mono ?_
  rintro e w2 ⟨rfl, hI2, hB2, hK2⟩
  go_wp2
  go_end0
  exact ⟨rfl, hI2, hB2, HK1.out.trans hK2⟩

theorem count_calls (w0 w : World) (g : Nat) (b : ByteArray) (n : Nat) (hI : IsW w0 w g b) (hB : Below w0.heap.size w0 w) (hn : n ≤ 9223372036854775807) (hl : b.size ≤ 140737488355000) :
    Calls Try.prog 75 #[.pointer (some ⟨g, 0, none⟩), .int .i64 n] w fun e w' => e = .returned (.tuple #[]) ∧ IsW w0 w' g (b ++ numStr n) ∧ Below w0.heap.size w0 w' ∧ Keeps w w' := by
  have HI := Aside0.mk hI
  have HB := Aside0.mk hB
  clear hI hB
  go_enter Try.func75, Try.ntmps75
  go_wp2_with fail
  refine (number_calls w0 _ g b (n : Int) HI.out HB.out (by unfold Un; omega) hl).mono ?_
  rw [Int.toNat_natCast]
  rintro e w2 ⟨rfl, hI2, hB2, hK2⟩
  go_wp2
  go_end0
  exact ⟨rfl, hI2, hB2, hK2⟩

theorem str_bytes (b : ByteArray) : strOfNums (bytesOf b) = b := by
  apply ByteArray.ext
  apply Array.ext'
  have h : ∀ l : List UInt8, (l.map fun x => (x.toNat : Int)).map (fun n => UInt8.ofNat n.toNat) = l := by
    intro l
    induction l with
    | nil => rfl
    | cons a t ih => rw [List.map_cons, List.map_cons, ih, Int.toNat_natCast, UInt8.ofNat_toNat]
  exact h b.data.toList

theorem all_calls (w0 w : World) (g : Nat) (b : ByteArray) (hI : IsW w0 w g b) : Calls Try.prog 25 #[.pointer (some ⟨g, 0, none⟩)] w fun e w' => e = .returned (.string b) ∧ w = w' := by
  obtain ⟨hg, v, hblk, hO⟩ := hI
  have hcv := own_string (P := Try.prog) (src := 142) (dst := 9) Try.underlying142 Try.underlying5 Try.underlying9 hO
  obtain ⟨A, c, rfl⟩ := own_slice hO
  have hc : w.cell? ⟨g, 0, none⟩ = some (.slice A (bytesOf b).length c) := (blk_cell hblk 0).trans rfl
  go_enter Try.func25, Try.ntmps25
  go_wp2
  go_ret
  exact ⟨by rw [show strOfNums (bytesOf b) = b from str_bytes b]; rfl, rfl⟩
end Go.Proofs.Ytbeefbhoccdicaa.Writer
