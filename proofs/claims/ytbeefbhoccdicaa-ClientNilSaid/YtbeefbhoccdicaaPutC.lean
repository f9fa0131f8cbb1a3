/- What a client asks for, and what it is told, put: walked. -/
import Derived.Test.YtbeefbhoccdicaaTakeT
namespace Go.Proofs.Ytbeefbhoccdicaa.PutC
open Go.RowKit Go.Proofs.YtbeefbhoccdicaaW.PrintWords Go.Proofs.YtbeefbhoccdicaaW.PrintLast Go.Proofs.YtbeefbhoccdicaaW.PrintMore Go.Proofs.Ytbeefbhoccdicaa.QGraphReads Go.Proofs.Ytbeefbhoccdicaa.PlainV Go.Proofs.Ytbeefbhoccdicaa.WireNum Go.Proofs.Ytbeefbhoccdicaa.WireRead Go.Proofs.Ytbeefbhoccdicaa.Writer Go.Proofs.Ytbeefbhoccdicaa.RdSpec Go.Proofs.Ytbeefbhoccdicaa.RdC Go.Proofs.Ytbeefbhoccdicaa.TakeA Go.Proofs.Ytbeefbhoccdicaa.TakeT
set_option linter.unusedVariables false
set_option linter.unusedSimpArgs false

/-- A writer at block g (since w0) holds these bytes. -/
def Wt (w0 W : World) (g : Nat) (l : List Nat) : Prop := ∃ b, IsW w0 W g b ∧ bs b = l
theorem Wt.below {w0 W W1 : World} {g : Nat} {l : List Nat} (h : Wt w0 W g l) (hb : Below W.heap.size W W1) : Wt w0 W1 g l := by
  obtain ⟨b, h1, h2⟩ := h
  exact ⟨b, h1.below hb, h2⟩
theorem new_wt (w0 w : World) (hB : Below w0.heap.size w0 w) : Calls Try.prog 22 #[] w fun e w' => ∃ g, e = .returned (.pointer (some ⟨g, 0, none⟩)) ∧ Wt w0 w' g [] ∧ Below w0.heap.size w0 w' ∧ Keeps w w' := by
  refine (new_calls w0 w hB).mono ?_
  rintro e w' ⟨g, rfl, hi, hb, hk⟩
  exact ⟨g, rfl, ⟨_, hi, rfl⟩, hb, hk⟩
theorem num_wt (w0 w : World) (g : Nat) (l : List Nat) (n : Nat) (h : Wt w0 w g l) (hB : Below w0.heap.size w0 w) (hn : n ≤ 9223372036854775807) (hl : l.length ≤ 140737488355000) :
    Calls Try.prog 109 #[.pointer (some ⟨g, 0, none⟩), .int .u64 (n : Int)] w fun e w' => e = .returned (.tuple #[]) ∧ Wt w0 w' g (l ++ vb 10 n) ∧ Below w0.heap.size w0 w' ∧ Keeps w w' := by
  obtain ⟨b, h1, rfl⟩ := h
  rw [bs_length] at hl
  refine (number_calls w0 w g b (n : Int) h1 hB (by unfold Un; omega) hl).mono ?_
  rw [Int.toNat_natCast]
  rintro e w' ⟨rfl, hi, hb, hk⟩
  exact ⟨rfl, ⟨_, hi, by rw [bs_append, bs_num]⟩, hb, hk⟩
theorem cnt_wt (w0 w : World) (g : Nat) (l : List Nat) (n : Nat) (h : Wt w0 w g l) (hB : Below w0.heap.size w0 w) (hn : n ≤ 9223372036854775807) (hl : l.length ≤ 140737488355000) :
    Calls Try.prog 75 #[.pointer (some ⟨g, 0, none⟩), .int .i64 (n : Int)] w fun e w' => e = .returned (.tuple #[]) ∧ Wt w0 w' g (l ++ vb 10 n) ∧ Below w0.heap.size w0 w' ∧ Keeps w w' := by
  obtain ⟨b, h1, rfl⟩ := h
  rw [bs_length] at hl
  refine (count_calls w0 w g b n h1 hB hn hl).mono ?_
  rintro e w' ⟨rfl, hi, hb, hk⟩
  exact ⟨rfl, ⟨_, hi, by rw [bs_append, bs_num]⟩, hb, hk⟩
theorem sgn_wt (w0 w : World) (g : Nat) (l : List Nat) (z : Int) (h : Wt w0 w g l) (hB : Below w0.heap.size w0 w) (hz : In z) (hl : l.length ≤ 140737488355000) :
    Calls Try.prog 84 #[.pointer (some ⟨g, 0, none⟩), .int .i64 z] w fun e w' => e = .returned (.tuple #[]) ∧ Wt w0 w' g (l ++ lS z) ∧ Below w0.heap.size w0 w' ∧ Keeps w w' := by
  obtain ⟨b, h1, rfl⟩ := h
  rw [bs_length] at hl
  refine (signed_calls w0 w g b z h1 hB hz hl).mono ?_
  rintro e w' ⟨rfl, hi, hb, hk⟩
  exact ⟨rfl, ⟨_, hi, by rw [bs_append, bs_sgn]⟩, hb, hk⟩
theorem byt_wt (w0 w : World) (g : Nat) (l : List Nat) (s : ByteArray) (h : Wt w0 w g l) (hB : Below w0.heap.size w0 w) (hl : l.length + s.size ≤ 140737488355328) :
    Calls Try.prog 147 #[.pointer (some ⟨g, 0, none⟩), .string s] w fun e w' => e = .returned (.tuple #[]) ∧ Wt w0 w' g (l ++ bs s) ∧ Below w0.heap.size w0 w' ∧ Keeps w w' := by
  obtain ⟨b, h1, rfl⟩ := h
  rw [bs_length] at hl
  refine (bytes_calls w0 w g b s h1 hB hl).mono ?_
  rintro e w' ⟨rfl, hi, hb, hk⟩
  exact ⟨rfl, ⟨_, hi, by rw [bs_append]⟩, hb, hk⟩
theorem all_wt (w0 w : World) (g : Nat) (l : List Nat) (h : Wt w0 w g l) : Calls Try.prog 25 #[.pointer (some ⟨g, 0, none⟩)] w fun e w' => (∃ b, e = .returned (.string b) ∧ bs b = l) ∧ w = w' := by
  obtain ⟨b, h1, h2⟩ := h
  refine (all_calls w0 w g b h1).mono ?_
  rintro e w' ⟨rfl, rfl⟩
  exact ⟨⟨b, rfl, h2⟩, rfl⟩
theorem txt_wt (w0 w : World) (g : Nat) (l : List Nat) (s : ByteArray) (h : Wt w0 w g l) (hB : Below w0.heap.size w0 w) (hl : l.length + s.size ≤ 140737488354000) :
    Calls Try.prog 167 #[.pointer (some ⟨g, 0, none⟩), .string s] w fun e w' => e = .returned (.tuple #[]) ∧ Wt w0 w' g (l ++ (vb 10 s.size ++ bs s)) ∧ Below w0.heap.size w0 w' ∧ Keeps w w' := by
  have H := Aside0.mk h
  have HB := Aside0.mk hB
  clear h hB
  go_enter Try.func167, Try.ntmps167
  go_wp2_with fail
  refine (num_wt w0 w g l s.size H.out HB.out (by omega) (by omega)).mono ?_
  rintro e w1 ⟨rfl, h1, hB1, hK1⟩
  have H1 := Aside0.mk h1
  have HB1 := Aside0.mk hB1
  have HK1 := Aside0.mk hK1
  clear h1 hB1 hK1
  go_wp2_with fail
  have hv := vb_length 10 s.size
  refine (byt_wt w0 w1 g _ s H1.out HB1.out (by rw [List.length_append]; omega)).mono ?_
  rintro e w2 ⟨rfl, h2, hB2, hK2⟩
  have H2 := Aside0.mk h2
  clear h2 hv
  go_wp2_with fail
  go_end0
  exact ⟨rfl, by have h := H2.out; rwa [List.append_assoc] at h, hB2, HK1.out.trans hK2⟩

def intC (ns : List Nat) : Array Value := (ns.map fun n : Nat => Value.int .i64 (n : Int)).toArray
set_option maxHeartbeats 4000000 in
set_option maxRecDepth 100000 in
theorem putCounts_calls (w0 w : World) (g a : Nat) (l ns : List Nat) (h : Wt w0 w g l) (hB : Below w0.heap.size w0 w) (hn : ∀ n ∈ ns, n ≤ 9223372036854775807) (hnl : ns.length ≤ 1000) (hl : l.length ≤ 140737488340000) (ha : w.heap[a]? = some (.cells (intC ns) 3 (0, 0))) :
    Calls Try.prog 130 #[.pointer (some ⟨g, 0, none⟩), .slice (some ⟨a, 0, none⟩) ns.length ns.length] w fun e w' => e = .returned (.tuple #[]) ∧ Wt w0 w' g (l ++ ns.flatMap (vb 10)) ∧ Below w0.heap.size w0 w' ∧ Keeps w w' := by
  have H := Aside0.mk h
  have HB := Aside0.mk hB
  have HN := Aside0.mk hn
  have HA := Aside0.mk ha
  clear h hB hn ha
  go_enter Try.func130, Try.ntmps130
  go_wp2_with fail
  go_loopw [8] (fun v8 wx => ∃ k : Nat, v8 = .int .i64 (k : Int) ∧ k ≤ ns.length ∧ Aside0 (Wt w0 wx g (l ++ (ns.take k).flatMap (vb 10))) ∧ Aside0 (Below w0.heap.size w0 wx) ∧ Aside0 (Keeps w wx)) (fun v8 _ => (ns.length - (intOf v8)).toNat)
  case atStart => exact ⟨0, rfl, Nat.zero_le _, ⟨by rw [List.take_zero, List.flatMap_nil, List.append_nil]; exact H.out⟩, HB, ⟨Keeps.refl _⟩⟩
  case round =>
    obtain ⟨k, rfl, hk, Hr, HBr, HKr⟩ := hrel
    rename World => wx
    rcases Nat.lt_or_ge k ns.length with hkl | hkg
    · have hkl1 : ((k : Int) < (ns.length : Int)) = True := eq_true (by omega)
      have hk2 : (0 : Int) ≤ (k : Int) ∧ (k : Int) < (ns.length : Int) := ⟨by omega, by omega⟩
      obtain ⟨n, hnk⟩ : ∃ n, ns[k]? = some n := ⟨_, List.getElem?_eq_getElem hkl⟩
      have hn1 := HN.out n (List.mem_of_getElem? hnk)
      have hcp : wx.cell? ⟨a, k, none⟩ = some (.int .i64 (n : Int)) := by
        refine (blk_cell (HKr.out a _ 3 (by decide) (by decide) HA.out) k).trans ?_
        unfold intC
        rw [List.getElem?_toArray, List.getElem?_map, hnk]
        rfl
      have htk : (ns.take (k + 1)).flatMap (vb 10) = (ns.take k).flatMap (vb 10) ++ vb 10 n := by
        rw [List.getElem?_eq_getElem hkl] at hnk
        injection hnk with hnk
        rw [List.take_succ_eq_append_getElem hkl, List.flatMap_append, hnk]
        simp
      have hlen : ((ns.take k).flatMap (vb 10)).length ≤ 10 * k := by
        have : ∀ m : List Nat, (m.flatMap (vb 10)).length ≤ 10 * m.length := by
          intro m
          induction m with
          | nil => simp
          | cons x t ih => rw [List.flatMap_cons, List.length_append, List.length_cons]; have := vb_length 10 x; omega
        have h := this (ns.take k)
        rw [List.length_take] at h
        omega
      have HTK := Aside0.mk htk
      have HLEN := Aside0.mk hlen
      clear hnk htk hlen
      go_wp2_with fail
      refine (cnt_wt w0 wx g _ n Hr.out HBr.out hn1 (by have := HLEN.out; rw [List.length_append]; omega)).mono ?_
      rintro e w2 ⟨rfl, h2, hB2, hK2⟩
      have H2 := Aside0.mk h2
      have HB2 := Aside0.mk hB2
      have HK2 := Aside0.mk (HKr.out.trans hK2)
      clear h2 hB2 hK2
      go_wp2_with fail
      go_roundw
      case rel => exact ⟨k + 1, by go_num, by omega, ⟨by rw [HTK.out, ← List.append_assoc]; exact H2.out⟩, HB2, HK2⟩
      case measure => simp [intOf]; omega
    · obtain rfl : k = ns.length := by omega
      have h1 := Hr.out
      rw [List.take_length] at h1
      have H1 := Aside0.mk h1
      clear h1 hkg
      go_wp2_with fail
      go_end0
      exact ⟨rfl, H1.out, HBr.out, HKr.out⟩
end Go.Proofs.Ytbeefbhoccdicaa.PutC
