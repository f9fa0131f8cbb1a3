/- What is read off bytes, in plain words; the program's readers and the document's answer just that. -/
import Derived.Test.YtbeefbhoccdicaaWriter
namespace Go.Proofs.Ytbeefbhoccdicaa.RdSpec
open Go.RowKit Go.Proofs.YtbeefbhoccdicaaW.PrintWords Go.Proofs.YtbeefbhoccdicaaW.PrintLast Go.Proofs.YtbeefbhoccdicaaW.PrintMore Go.Proofs.Ytbeefbhoccdicaa.QGraphReads Go.Proofs.Ytbeefbhoccdicaa.PlainV Go.Proofs.Ytbeefbhoccdicaa.WireNum Go.Proofs.Ytbeefbhoccdicaa.WireRead
set_option linter.unusedVariables false

/-- Where a reader stands, and its error. -/
structure St where
  p : Nat
  e : Nat

/-- No text is longer. -/
def Sz (s : ByteArray) : Prop := s.size ≤ 4611686018427387904

def numS (s : ByteArray) (t : St) : Nat × St :=
  if t.e = 0 then
    match rdv 10 true ((bs s).drop t.p) with
    | .err e => (0, ⟨t.p, e⟩)
    | .ok v l => (v, ⟨t.p + l, 0⟩)
  else (0, t)

theorem drop_byte (s : ByteArray) (n : Nat) : ∀ b ∈ (bs s).drop n, b < 256 := fun b hb => bs_byte s b (List.mem_of_mem_drop hb)
theorem numS_p (s : ByteArray) (t : St) (h : t.p ≤ s.size) : (numS s t).2.p ≤ s.size ∧ t.p ≤ (numS s t).2.p := by
  unfold numS
  split
  · split
    · exact ⟨h, Nat.le_refl _⟩
    · rename_i v l hr
      have := rdv_le 10 _ _ _ _ hr
      rw [List.length_drop, bs_length] at this
      simp only
      omega
  · exact ⟨h, Nat.le_refl _⟩
theorem numS_un (s : ByteArray) (t : St) : Un ((numS s t).1 : Int) := by
  unfold numS Un
  split
  · split
    · simp
    · rename_i v l hr
      have := (vb_rdv 9 _ _ _ _ (drop_byte s t.p) hr).2.2.1
      have h64 : (2 : Nat) ^ (7 * 9 + 1) = 18446744073709551616 := by decide
      simp only
      omega
  · simp

theorem wire_num {k : Nat} (hk : 20 < k) (s : ByteArray) (t : St) (hs : Sz s) (hp : t.p ≤ s.size) :
    wire_Reader_Number.f k s t.p t.e = some (((numS s t).1 : Int), s, ((numS s t).2.p : Int), ((numS s t).2.e : Int)) := by
  obtain ⟨p, e⟩ := t
  simp only at hp ⊢
  unfold wire_Reader_Number.f wire_Reader_Err.f numS
  simp only [Option.bind_some]
  by_cases he : e = 0
  · subst he
    have h := wire_l0 10 k 0 0 p 0 s rfl (by decide) hp hs (by omega)
    rw [if_pos rfl]
    refine h.trans ?_
    simp only [decide_true, Nat.add_zero]
    cases rdv 10 true ((bs s).drop p) with
    | err e => rfl
    | ok v l => simp [gotW]
  · rw [if_neg (by omega), if_neg he]
    rfl

theorem ref_num {k : Nat} (hk : 20 < k) (s : ByteArray) (t : St) (hs : Sz s) (hp : t.p ≤ s.size) :
    cohortref01_Reader_Number.f k s t.p t.e = some (s, ((numS s t).2.p : Int), ((numS s t).2.e : Int), ((numS s t).1 : Int)) := by
  obtain ⟨p, e⟩ := t
  simp only at hp ⊢
  unfold cohortref01_Reader_Number.f numS
  by_cases he : e = 0
  · subst he
    have h := ref_l0 10 k 0 0 p 0 1 s rfl (.inr rfl) (by decide) hp hs (by omega)
    rw [if_pos rfl]
    refine h.trans ?_
    simp only [decide_true, Nat.add_zero]
    cases rdv 10 true ((bs s).drop p) with
    | err e => rfl
    | ok v l => simp [gotR]
  · rw [if_neg (by omega), if_neg he]
    rfl

def sgnS (s : ByteArray) (t : St) : Int × St := (unfoldZ ((numS s t).1 : Int), (numS s t).2)
theorem sgnS_in (s : ByteArray) (t : St) : In (sgnS s t).1 := unfold_in (numS_un s t)
theorem sgnS_p (s : ByteArray) (t : St) (h : t.p ≤ s.size) : (sgnS s t).2.p ≤ s.size := (numS_p s t h).1

theorem wire_sgn {k : Nat} (hk : 20 < k) (s : ByteArray) (t : St) (hs : Sz s) (hp : t.p ≤ s.size) :
    wire_Reader_Signed.f k s t.p t.e = some ((sgnS s t).1, s, ((sgnS s t).2.p : Int), ((sgnS s t).2.e : Int)) := by
  unfold wire_Reader_Signed.f
  rw [wire_num hk s t hs hp]
  simp only [Option.bind_some]
  rw [wire_unfold (numS_un s t)]
  rfl
def cntS (s : ByteArray) (m : Nat) (t : St) : Nat × St :=
  if (numS s t).2.e = 0 then (if (numS s t).1 > m then (0, ⟨t.p, 5⟩) else numS s t) else (0, (numS s t).2)
theorem numS_err (s : ByteArray) (t : St) (h : (numS s t).2.e ≠ 0) : (numS s t).1 = 0 := by
  unfold numS at h ⊢
  split
  · rename_i h0
    rw [if_pos h0] at h
    split
    · rfl
    · rename_i v l hr
      rw [hr] at h
      exact absurd rfl h
  · rfl
theorem cntS_p (s : ByteArray) (m : Nat) (t : St) (h : t.p ≤ s.size) : (cntS s m t).2.p ≤ s.size := by
  have h1 := (numS_p s t h).1
  unfold cntS
  split
  · split
    · exact h
    · exact h1
  · exact h1
theorem cntS_le (s : ByteArray) (m : Nat) (t : St) : (cntS s m t).1 ≤ m := by
  unfold cntS
  split
  · split
    · exact Nat.zero_le _
    · omega
  · exact Nat.zero_le _

theorem wire_cnt {k : Nat} (hk : 20 < k) (s : ByteArray) (m : Nat) (hm : m ≤ 100000) (t : St) (hs : Sz s) (hp : t.p ≤ s.size) :
    wire_Reader_Count.f k s t.p t.e (m : Int) = some (((cntS s m t).1 : Int), s, ((cntS s m t).2.p : Int), ((cntS s m t).2.e : Int)) := by
  have hu := numS_un s t
  unfold wire_Reader_Count.f wire_Reader_At.f
  simp only [Option.bind_some]
  rw [wire_num hk s t hs hp]
  simp only [Option.bind_some, wire_Reader_Err.f]
  unfold cntS
  have hw : IntKind.u64.wrap (m : Int) = (m : Int) := by rw [IntKind.wrap_u64]; omega
  rw [hw]
  by_cases h0 : (numS s t).2.e = 0
  · rw [if_pos (by omega), if_neg (by omega), if_pos h0]
    by_cases h1 : (numS s t).1 > m
    · rw [if_pos (by omega), if_pos h1]
      rfl
    · rw [if_neg (by omega), if_neg h1, wrap_in (by unfold In; omega)]
  · rw [if_neg (by omega), if_neg h0]
    rfl
/-- Edges, as long as there is no error. -/
def edgesS (s : ByteArray) : Nat → St → List (Int × Int) → List (Int × Int) × St
  | 0, t, acc => (acc, t)
  | n + 1, t, acc => if t.e = 0 then edgesS s n (sgnS s (sgnS s t).2).2 (acc ++ [((sgnS s t).1, (sgnS s (sgnS s t).2).1)]) else (acc, t)
/-- A vertex. -/
def vertS (s : ByteArray) (t : St) : (Int × Int × List (Int × Int)) × St :=
  let a := sgnS s t
  let b := sgnS s a.2
  let c := cntS s 2048 b.2
  let d := edgesS s c.1 c.2 []
  ((a.1, b.1, d.1), d.2)

def e67 (x : Int × Int) : S67 := ⟨x.1, x.2⟩
def e140 (x : Int × Int) : S140 := ⟨x.1, x.2⟩
def v53 (x : Int × Int × List (Int × Int)) : S53 := ⟨x.1, x.2.1, x.2.2.map e67⟩
def v59 (x : Int × Int × List (Int × Int)) : S59 := ⟨x.1, x.2.1, x.2.2.map e140⟩

theorem edgesS_p (s : ByteArray) : ∀ (n : Nat) (t : St) (acc : List (Int × Int)), t.p ≤ s.size → (edgesS s n t acc).2.p ≤ s.size := by
  intro n
  induction n with
  | zero => intro t acc h; exact h
  | succ n ih =>
    intro t acc h
    rw [edgesS]
    split
    · exact ih _ _ (sgnS_p s _ (sgnS_p s t h))
    · exact h
theorem edgesS_len (s : ByteArray) : ∀ (n : Nat) (t : St) (acc : List (Int × Int)), (edgesS s n t acc).1.length ≤ acc.length + n := by
  intro n
  induction n with
  | zero => intro t acc; exact Nat.le_refl _
  | succ n ih =>
    intro t acc
    rw [edgesS]
    split
    · have := ih (sgnS s (sgnS s t).2).2 (acc ++ [((sgnS s t).1, (sgnS s (sgnS s t).2).1)])
      rw [List.length_append] at this
      simp only [List.length_cons, List.length_nil] at this
      omega
    · exact Nat.le_add_right _ _
theorem vertS_p (s : ByteArray) (t : St) (h : t.p ≤ s.size) : (vertS s t).2.p ≤ s.size := edgesS_p s _ _ _ (cntS_p s _ _ (sgnS_p s _ (sgnS_p s t h)))
theorem vertS_len (s : ByteArray) (t : St) : (vertS s t).1.2.2.length ≤ 2048 := by
  have h := edgesS_len s (cntS s 2048 (sgnS s (sgnS s t).2).2).1 (cntS s 2048 (sgnS s (sgnS s t).2).2).2 []
  have h2 := cntS_le s 2048 (sgnS s (sgnS s t).2).2
  simp only [List.length_nil] at h
  show (edgesS s _ _ []).1.length ≤ 2048
  omega

theorem wire_edges (s : ByteArray) (hs : Sz s) (a b : Int) : ∀ (n : Nat) (k : Nat) (t : St) (acc : List (Int × Int)), t.p ≤ s.size → 22 + 2 * n < k → acc.length + n ≤ 100000 →
    graph_TakeVertex.l0 k (n : Int) s t.p t.e a b (acc.map e67) = some (a, b, (edgesS s n t acc).1.map e67, s, ((edgesS s n t acc).2.p : Int), ((edgesS s n t acc).2.e : Int)) := by
  intro n
  induction n with
  | zero =>
    intro k t acc hp hk hl
    obtain ⟨k, rfl⟩ : ∃ m, k = m + 2 := ⟨k - 2, by omega⟩
    rw [graph_TakeVertex.l0, if_neg (by omega), graph_TakeVertex.j1]
    refine (if_neg (by decide)).trans ?_
    rfl
  | succ n ih =>
    intro k t acc hp hk hl
    obtain ⟨k, rfl⟩ : ∃ m, k = m + 2 := ⟨k - 2, by omega⟩
    rw [graph_TakeVertex.l0, if_pos (by omega)]
    simp only [wire_Reader_Err.f, Option.bind_some]
    rw [graph_TakeVertex.j1, edgesS]
    by_cases h0 : t.e = 0
    · rw [if_pos (by rw [h0]; rfl), if_pos h0, wire_sgn (by omega) s t hs hp]
      simp only [Option.bind_some]
      rw [wire_sgn (by omega) s _ hs (sgnS_p s t hp)]
      simp only [Option.bind_some]
      have hw : wrap64 (((n + 1 : Nat) : Int) - 1) = (n : Int) := by rw [wrap_in (by unfold In; omega)]; omega
      have hm : acc.map e67 ++ [(⟨(sgnS s t).1, (sgnS s (sgnS s t).2).1⟩ : S67)] = (acc ++ [((sgnS s t).1, (sgnS s (sgnS s t).2).1)]).map e67 := by rw [List.map_append]; rfl
      rw [if_pos (by rw [List.length_map]; omega), hw, hm]
      exact ih k _ _ (sgnS_p s _ (sgnS_p s t hp)) (by omega) (by rw [List.length_append]; simp only [List.length_cons, List.length_nil]; omega)
    · rw [if_neg (by simp; omega), if_neg h0]

theorem wire_vert {k : Nat} (hk : 4200 < k) (s : ByteArray) (t : St) (hs : Sz s) (hp : t.p ≤ s.size) :
    graph_TakeVertex.f k s t.p t.e = some ((vertS s t).1.1, (vertS s t).1.2.1, (vertS s t).1.2.2.map e67, s, ((vertS s t).2.p : Int), ((vertS s t).2.e : Int)) := by
  unfold graph_TakeVertex.f
  have hc := cntS_le s 2048 (sgnS s (sgnS s t).2).2
  rw [wire_sgn (by omega) s t hs hp]
  simp only [Option.bind_some]
  rw [wire_sgn (by omega) s _ hs (sgnS_p s t hp)]
  simp only [Option.bind_some]
  have hcc := wire_cnt (k := k) (by omega) s 2048 (by decide) _ hs (sgnS_p s _ (sgnS_p s t hp))
  rw [show ((2048 : Nat) : Int) = 2048 from rfl] at hcc
  rw [hcc]
  simp only [Option.bind_some]
  exact wire_edges s hs _ _ _ k _ [] (cntS_p s _ _ (sgnS_p s _ (sgnS_p s t hp))) (by omega) (by simp only [List.length_nil]; omega)

end Go.Proofs.Ytbeefbhoccdicaa.RdSpec
