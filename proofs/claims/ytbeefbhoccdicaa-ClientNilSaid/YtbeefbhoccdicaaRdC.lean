/- What was put is taken again, a reader's word by word: plain words, and the reader's contracts in them. -/
import Derived.Test.YtbeefbhoccdicaaRdSpec
import Derived.Test.YtbeefbhoccdicaaQClix1
import Derived.Laws.CopyOwn
import Derived.Laws.Tables
namespace Go.Proofs.Ytbeefbhoccdicaa.RdC
open Go.RowKit Go.Proofs.YtbeefbhoccdicaaW.PrintWords Go.Proofs.YtbeefbhoccdicaaW.PrintLast Go.Proofs.YtbeefbhoccdicaaW.PrintMore Go.Proofs.Ytbeefbhoccdicaa.QGraphReads Go.Proofs.Ytbeefbhoccdicaa.PlainV Go.Proofs.Ytbeefbhoccdicaa.WireNum Go.Proofs.Ytbeefbhoccdicaa.WireRead Go.Proofs.Ytbeefbhoccdicaa.RdSpec
set_option linter.unusedVariables false

theorem bs_append (a b : ByteArray) : bs (a ++ b) = bs a ++ bs b := by simp [bs]
theorem bs_inj {a b : ByteArray} (h : bs a = bs b) : a = b := by
  apply ByteArray.ext
  apply Array.ext'
  have hl : ∀ l m : List UInt8, l.map (fun b => b.toNat) = m.map (fun b => b.toNat) → l = m := by
    intro l
    induction l with
    | nil => intro m hm; cases m with
      | nil => rfl
      | cons a t => cases hm
    | cons a t ih => intro m hm; cases m with
      | nil => cases hm
      | cons c u =>
        rw [List.map_cons, List.map_cons] at hm
        injection hm with h1 h2
        rw [ih u h2, UInt8.toNat_inj.1 h1]
  exact hl _ _ h
theorem bs_nums : ∀ l : List Nat, (∀ b ∈ l, b < 256) → bs (strOfNums (ints l)) = l := by
  intro l h
  have e : ∀ l : List Nat, (∀ b ∈ l, b < 256) → (((ints l).map fun n => UInt8.ofNat n.toNat)).map (fun b => b.toNat) = l := by
    intro l
    induction l with
    | nil => intro _; rfl
    | cons a t ih =>
      intro h
      have ha := h a (List.mem_cons_self ..)
      rw [ints_cons, List.map_cons, List.map_cons, ih (fun b hb => h b (List.mem_cons_of_mem _ hb)), Int.toNat_natCast, UInt8.toNat_ofNat_of_lt' ha]
  exact e l h
theorem bs_num (n : Nat) : bs (numStr n) = vb 10 n := bs_nums _ (vb_byte 10 n)
def lS (z : Int) : List Nat := vb 10 (foldZ z).toNat
theorem bs_sgn (z : Int) : bs (sgnStr z) = lS z := bs_num _
theorem drop_more {l x r : List Nat} {p : Nat} (h : l.drop p = x ++ r) : l.drop (p + x.length) = r := by
  rw [← List.drop_drop, h, List.drop_left]
theorem drop_size {s : ByteArray} {x r : List Nat} {p : Nat} (h : (bs s).drop p = x ++ r) (hx : 0 < x.length) : p + x.length ≤ s.size := by
  have h1 := congrArg List.length h
  rw [List.length_drop, List.length_append, bs_length] at h1
  omega
theorem drop_size0 {s : ByteArray} {x r : List Nat} {p : Nat} (h : (bs s).drop p = x ++ r) (hp : p ≤ s.size) : p + x.length ≤ s.size := by
  have h1 := congrArg List.length h
  rw [List.length_drop, List.length_append, bs_length] at h1
  omega
theorem num_at {s : ByteArray} {p n : Nat} {r : List Nat} (h : (bs s).drop p = vb 10 n ++ r) (hn : n < 18446744073709551616) : numS s ⟨p, 0⟩ = (n, ⟨p + (vb 10 n).length, 0⟩) := by
  unfold numS
  rw [if_pos rfl, h, rdv_vb 9 n true r (Nat.lt_of_lt_of_le hn (by decide)) (.inl rfl)]
theorem sgn_at {s : ByteArray} {p : Nat} {z : Int} {r : List Nat} (h : (bs s).drop p = lS z ++ r) (hz : In z) : sgnS s ⟨p, 0⟩ = (z, ⟨p + (lS z).length, 0⟩) := by
  have hu := fold_un hz
  have hu' := hu
  unfold Un at hu'
  unfold sgnS
  rw [num_at h (by omega)]
  simp only
  rw [Int.toNat_of_nonneg hu'.1, unfold_fold]
  rfl
theorem wire_cnt2 {k : Nat} (hk : 20 < k) (s : ByteArray) (p n m : Nat) (r : List Nat) (h : (bs s).drop p = vb 10 n ++ r) (hn : n ≤ m) (hm : m ≤ 2147483647) (hs : Sz s) (hp : p ≤ s.size) :
    wire_Reader_Count.f k s p 0 (m : Int) = some ((n : Int), s, ((p + (vb 10 n).length : Nat) : Int), 0) := by
  have hu := num_at h (by omega)
  unfold wire_Reader_Count.f wire_Reader_At.f
  simp only [Option.bind_some]
  have hw := wire_num hk s ⟨p, 0⟩ hs hp
  rw [hu] at hw
  simp only at hw
  rw [show ((0 : Nat) : Int) = 0 from rfl] at hw
  rw [hw]
  simp only [Option.bind_some, wire_Reader_Err.f]
  have hw : IntKind.u64.wrap (m : Int) = (m : Int) := by rw [IntKind.wrap_u64]; omega
  rw [hw, if_pos trivial, if_neg (by omega), if_neg (by omega), wrap_in (by unfold In; omega)]
theorem bs_extract (s : ByteArray) (a b : Nat) : bs (s.extract a b) = ((bs s).drop a).take (b - a) := by
  unfold bs
  rw [ByteArray.data_extract, Array.toList_extract, List.extract_eq_take_drop, List.map_take, List.map_drop]
theorem extract_at {s x : ByteArray} {p : Nat} {r : List Nat} (h : (bs s).drop p = bs x ++ r) : s.extract p (p + x.size) = x := by
  apply bs_inj
  rw [bs_extract, h, Nat.add_sub_cancel_left, ← bs_length x, List.take_left]
theorem wire_txt {k : Nat} (hk : 20 < k) (s x : ByteArray) (p : Nat) (r : List Nat) (h : (bs s).drop p = vb 10 x.size ++ (bs x ++ r)) (hs : Sz s) (hp : p ≤ s.size) :
    wire_Reader_Text.f k s p 0 = some (x, s, ((p + (vb 10 x.size).length + x.size : Nat) : Int), 0) := by
  have h2 := drop_more h
  have hz1 := drop_size0 h hp
  have hz2 := drop_size0 h2 hz1
  rw [bs_length] at hz2
  have hss : s.size ≤ 4611686018427387904 := hs
  have hu := num_at h (by omega)
  have hw := wire_num hk s ⟨p, 0⟩ hs hp
  rw [hu] at hw
  simp only at hw
  rw [show ((0 : Nat) : Int) = 0 from rfl] at hw
  have hx := extract_at h2
  unfold wire_Reader_Text.f wire_Reader_At.f
  simp only [Option.bind_some]
  rw [hw]
  generalize p + (vb 10 x.size).length = q at *
  simp only [Option.bind_some, wire_Reader_Err.f, wire_Reader_Left.f]
  have e1 : wrap64 ((s.size : Int) - (q : Int)) = ((s.size - q : Nat) : Int) := by rw [wrap_in (by unfold In; omega)]; omega
  have e2 : IntKind.u64.wrap (((s.size - q : Nat) : Int)) = ((s.size - q : Nat) : Int) := by rw [IntKind.wrap_u64]; omega
  have e3 : wrap64 (x.size : Int) = (x.size : Int) := wrap_in (by unfold In; omega)
  rw [if_pos trivial, e1, e2, if_neg (by omega), e3]
  unfold wire_Reader_Bytes.f wire_Reader_Err.f
  simp only [Option.bind_some]
  have e4 : wrap64 ((q : Int) + (x.size : Int)) = ((q + x.size : Nat) : Int) := by rw [wrap_in (by unfold In; omega)]; omega
  have e5 : wrap64 (((q + x.size : Nat) : Int) - (x.size : Int)) = (q : Int) := by rw [wrap_in (by unfold In; omega)]; omega
  rw [if_pos trivial, if_neg (by omega), e1, if_neg (by omega), e4, e5, if_pos (by omega), if_pos (by omega), if_pos (by omega)]
  simp only [Option.bind_some, Int.toNat_natCast]
  rw [hx]

/-- A reader at block g (since w0) stands before these bytes, without an error. -/
def Rd (w0 W : World) (g : Nat) (s : ByteArray) (rest : List Nat) : Prop := ∃ p : Nat, IsS147 w0 W g s (p : Int) 0 ∧ (bs s).drop p = rest ∧ p ≤ s.size
theorem Rd.below {w0 W W1 : World} {g : Nat} {s : ByteArray} {rest : List Nat} (h : Rd w0 W g s rest) (hb : Below W.heap.size W W1) : Rd w0 W1 g s rest := by
  obtain ⟨p, h1, h2, h3⟩ := h
  exact ⟨p, h1.below hb, h2, h3⟩
theorem Rd.far {w0 W : World} {g : Nat} {s : ByteArray} {rest : List Nat} (h : Rd w0 W g s rest) {a : Addr} (hne : g ≠ a.block) (u : Value) : Rd w0 (W.setCell a u) g s rest := by
  obtain ⟨p, h1, h2, h3⟩ := h
  exact ⟨p, IsS147.far h1 hne u, h2, h3⟩
theorem Rd.blk {w0 W : World} {g : Nat} {s : ByteArray} {rest : List Nat} (h : Rd w0 W g s rest) : ∃ cs, W.heap[g]? = some (.cells cs 147 (0, 0)) := by
  obtain ⟨p, h1, h2, h3⟩ := h
  exact ⟨_, h1.1⟩
theorem Rd.ge {w0 W : World} {g : Nat} {s : ByteArray} {rest : List Nat} (h : Rd w0 W g s rest) : w0.heap.size ≤ g := by
  obtain ⟨p, h1, h2, h3⟩ := h
  exact h1.2
theorem Rd.row {w0 W : World} {g : Nat} {s : ByteArray} {rest : List Nat} (h : Rd w0 W g s rest) {b : Nat} (hne : g ≠ b) (cs : Array Value) : Rd w0 (W.setRow b cs) g s rest := by
  obtain ⟨p, ⟨h0, h1⟩, h2, h3⟩ := h
  exact ⟨p, ⟨(setRow_other W b g cs hne).trans h0, h1⟩, h2, h3⟩
theorem Rd.ne {w0 W : World} {g b : Nat} {s : ByteArray} {rest : List Nat} (h : Rd w0 W g s rest) {cs : Array Value} {t : TypeId} (hb : W.heap[b]? = some (.cells cs t (0, 0))) (ht : t ≠ 147) : g ≠ b := by
  rintro rfl
  obtain ⟨c, hc⟩ := h.blk
  rw [hc] at hb
  injection hb with hb
  injection hb with _ hb
  exact ht hb.symm
theorem new_rd (w0 w : World) (s : ByteArray) (hB : Below w0.heap.size w0 w) : Calls Try.prog 24 #[.string s] w fun e w' => ∃ g, e = .returned (.pointer (some ⟨g, 0, none⟩)) ∧ Rd w0 w' g s (bs s) ∧ Below w0.heap.size w0 w' ∧ Below w.heap.size w w' := by
  refine (wire_NewReader.calls s s 0 0 w0 w hB rfl).mono ?_
  rintro e w' ⟨g, rfl, hi, hb, hb2⟩
  exact ⟨g, rfl, ⟨0, hi, rfl, Nat.zero_le _⟩, hb, hb2⟩
theorem cnt_rd (w0 w : World) (g : Nat) (s : ByteArray) (n m : Nat) (r : List Nat) (h : Rd w0 w g s (vb 10 n ++ r)) (hs : Sz s) (hB : Below w0.heap.size w0 w) (hn : n ≤ m) (hm : m ≤ 2147483647) :
    Calls Try.prog 76 #[.pointer (some ⟨g, 0, none⟩), .int .i64 (m : Int)] w fun e w' => e = .returned (.int .i64 (n : Int)) ∧ Rd w0 w' g s r ∧ Below w0.heap.size w0 w' ∧ KeepBut w w' g none := by
  obtain ⟨p, h1, h2, h3⟩ := h
  refine (wire_Reader_Count.calls 21 g s p 0 m _ _ _ _ w0 w h1 hB (wire_cnt2 (by omega) s p n m r h2 hn hm hs h3)).mono ?_
  rintro e w' ⟨rfl, hi, hb, hk⟩
  exact ⟨rfl, ⟨_, hi, drop_more h2, drop_size0 h2 h3⟩, hb, hk⟩
theorem sgn_rd (w0 w : World) (g : Nat) (s : ByteArray) (z : Int) (r : List Nat) (h : Rd w0 w g s (lS z ++ r)) (hs : Sz s) (hB : Below w0.heap.size w0 w) (hz : In z) :
    Calls Try.prog 85 #[.pointer (some ⟨g, 0, none⟩)] w fun e w' => e = .returned (.int .i64 z) ∧ Rd w0 w' g s r ∧ Below w0.heap.size w0 w' ∧ KeepBut w w' g none := by
  obtain ⟨p, h1, h2, h3⟩ := h
  have hf := wire_sgn (k := 21) (by omega) s ⟨p, 0⟩ hs h3
  rw [sgn_at h2 hz] at hf
  refine (wire_Reader_Signed.calls 21 g s p 0 _ _ _ _ w0 w h1 hB hf).mono ?_
  rintro e w' ⟨rfl, hi, hb, hk⟩
  exact ⟨rfl, ⟨_, hi, drop_more h2, drop_size0 h2 h3⟩, hb, hk⟩
theorem txt_rd (w0 w : World) (g : Nat) (s x : ByteArray) (r : List Nat) (h : Rd w0 w g s (vb 10 x.size ++ (bs x ++ r))) (hs : Sz s) (hB : Below w0.heap.size w0 w) :
    Calls Try.prog 173 #[.pointer (some ⟨g, 0, none⟩)] w fun e w' => e = .returned (.string x) ∧ Rd w0 w' g s r ∧ Below w0.heap.size w0 w' ∧ KeepBut w w' g none := by
  obtain ⟨p, h1, h2, h3⟩ := h
  refine (wire_Reader_Text.calls 21 g s p 0 _ _ _ _ w0 w h1 hB (wire_txt (by omega) s x p r h2 hs h3)).mono ?_
  rintro e w' ⟨rfl, hi, hb, hk⟩
  have h4 := drop_more h2
  have h5 := drop_size0 h2 h3
  have h6 := drop_more h4
  have h7 := drop_size0 h4 h5
  rw [bs_length] at h6 h7
  exact ⟨rfl, ⟨_, hi, h6, h7⟩, hb, hk⟩
theorem err_rd (w0 w : World) (g : Nat) (s : ByteArray) (r : List Nat) (h : Rd w0 w g s r) (hB : Below w0.heap.size w0 w) :
    Calls Try.prog 30 #[.pointer (some ⟨g, 0, none⟩)] w fun e w' => e = .returned (.int .i64 0) ∧ Rd w0 w' g s r ∧ Below w0.heap.size w0 w' ∧ KeepBut w w' g none := by
  obtain ⟨p, h1, h2, h3⟩ := h
  refine (wire_Reader_Err.calls g s p 0 _ _ _ _ w0 w h1 hB rfl).mono ?_
  rintro e w' ⟨rfl, hi, hb, hk⟩
  exact ⟨rfl, ⟨_, hi, h2, h3⟩, hb, hk⟩
theorem fail_rd (w0 w : World) (g : Nat) (s : ByteArray) (r : List Nat) (h : Rd w0 w g s r) (hB : Below w0.heap.size w0 w) :
    Calls Try.prog 77 #[.pointer (some ⟨g, 0, none⟩), .int .i64 0] w fun e w' => e = .returned (.tuple #[]) ∧ Rd w0 w' g s r ∧ Below w0.heap.size w0 w' ∧ KeepBut w w' g none := by
  obtain ⟨p, h1, h2, h3⟩ := h
  refine (wire_Reader_Fail.calls g s p 0 0 _ _ _ w0 w h1 hB (by unfold wire_Reader_Fail.f; rw [if_pos rfl])).mono ?_
  rintro e w' ⟨rfl, hi, hb, hk⟩
  exact ⟨rfl, ⟨_, hi, h2, h3⟩, hb, hk⟩
theorem end_rd (w0 w : World) (g : Nat) (s : ByteArray) (h : Rd w0 w g s []) (hs : Sz s) (hB : Below w0.heap.size w0 w) :
    Calls Try.prog 74 #[.pointer (some ⟨g, 0, none⟩)] w fun e w' => e = .returned (.int .i64 0) ∧ Rd w0 w' g s [] ∧ Below w0.heap.size w0 w' ∧ KeepBut w w' g none := by
  obtain ⟨p, h1, h2, h3⟩ := h
  have hp : p = s.size := by
    have := congrArg List.length h2
    rw [List.length_drop, bs_length] at this
    simp only [List.length_nil] at this
    omega
  refine (wire_Reader_End.calls g s p 0 0 s p 0 w0 w h1 hB (by
    unfold wire_Reader_End.f wire_Reader_Left.f
    simp only [Option.bind_some]
    rw [hp, Int.sub_self, if_neg (by unfold wrap64; omega)]
    rfl)).mono ?_
  rintro e w' ⟨rfl, hi, hb, hk⟩
  exact ⟨rfl, ⟨_, hi, h2, h3⟩, hb, hk⟩
end Go.Proofs.Ytbeefbhoccdicaa.RdC
