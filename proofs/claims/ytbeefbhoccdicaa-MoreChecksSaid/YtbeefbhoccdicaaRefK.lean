/- The document's check of parameters: plain words. -/
import Derived.Test.YtbeefbhoccdicaaKCheckS
import Derived.Test.YtbeefbhoccdicaaRefCheck
import Derived.Test.YtbeefbhoccdicaaQKernx4
namespace Go.Proofs.Ytbeefbhoccdicaa.RefK
open Go.RowKit Go.Proofs.YtbeefbhoccdicaaW.PrintWords Go.Proofs.YtbeefbhoccdicaaW.PrintLast Go.Proofs.YtbeefbhoccdicaaW.PrintMore Go.Proofs.Ytbeefbhoccdicaa.QGraphReads Go.Proofs.Ytbeefbhoccdicaa.WireNum Go.Proofs.Ytbeefbhoccdicaa.PutG Go.Proofs.Ytbeefbhoccdicaa.FindG Go.Proofs.Ytbeefbhoccdicaa.AllG Go.Proofs.Ytbeefbhoccdicaa.CheckG Go.Proofs.Ytbeefbhoccdicaa.SourceK Go.Proofs.Ytbeefbhoccdicaa.KCheck Go.Proofs.Ytbeefbhoccdicaa.KCheckS Go.Proofs.Ytbeefbhoccdicaa.RefSpec Go.Proofs.Ytbeefbhoccdicaa.RefCheck
set_option linter.unusedVariables false

theorem some_arg {α : Type} {a b : α} (h : a = b) : some a = some b := congrArg some h

/-- Names, looked through. -/
theorem known_l0 (N : List ByteArray) (s : ByteArray) (hN : N.length ≤ 100) : ∀ (m i k : Nat), i + m = N.length → m < k →
    cohortref07_Known.l0 k s N (i : Int) = some ((N.drop i).any fun n => n.toList == s.toList) := by
  intro m
  induction m with
  | zero =>
    intro i k hi hk
    obtain ⟨k, rfl⟩ : ∃ j, k = j + 1 := ⟨k - 1, by omega⟩
    rw [cohortref07_Known.l0, if_neg (by omega), List.drop_of_length_le (by omega)]
    rfl
  | succ m ih =>
    intro i k hi hk
    obtain ⟨k, rfl⟩ : ∃ j, k = j + 1 := ⟨k - 1, by omega⟩
    have hlt : i < N.length := by omega
    have hrd : rdOf ByteArray.empty N (i : Int) = N.getD i ByteArray.empty := by unfold rdOf; rw [Int.toNat_natCast]
    rw [cohortref07_Known.l0, if_pos (by omega), if_pos (by omega), hrd, drop_getD N i ByteArray.empty hlt, List.any_cons]
    by_cases h : (N.getD i ByteArray.empty).toList = s.toList
    · rw [if_pos h, beq_iff_eq.mpr h, Bool.true_or]
    · rw [if_neg h, beq_eq_false_iff_ne.mpr h, Bool.false_or, wrap_succ (by omega)]
      exact ih (i + 1) k (by omega) (by omega)
def namesL : List ByteArray := [(⟨#[98, 102, 115]⟩ : ByteArray), ⟨#[99, 99]⟩, ⟨#[99, 111, 108, 111, 114, 115]⟩, ⟨#[100, 101, 103, 114, 101, 101]⟩, ⟨#[107, 99, 111, 114, 101]⟩, ⟨#[108, 97, 98, 101, 108, 115]⟩, ⟨#[109, 97, 116, 99, 104, 105, 110, 103]⟩, ⟨#[112, 97, 103, 101, 114, 97, 110, 107]⟩, ⟨#[115, 115, 115, 112]⟩, ⟨#[116, 114, 105, 97, 110, 103, 108, 101, 115]⟩]
def knownB (s : ByteArray) : Bool := namesL.any fun n => n.toList == s.toList
theorem names_f : cohortref07_Names.f = some namesL := rfl
theorem known_f (s : ByteArray) {k : Nat} (hk : 10 < k) : cohortref07_Known.f k s = some (knownB s) := by
  unfold cohortref07_Known.f
  rw [names_f, Option.bind_some]
  have h := known_l0 namesL s (by decide) 10 0 k rfl hk
  rw [List.drop_zero] at h
  exact h
theorem known_degree {s : ByteArray} (h : s.toList = ([100, 101, 103, 114, 101, 101] : List UInt8)) : knownB s = true := by
  unfold knownB
  rw [List.any_eq_true]
  exact ⟨⟨#[100, 101, 103, 114, 101, 101]⟩, by simp [namesL], by rw [h, ByteArray.toList_eq]; rfl⟩
theorem known_cc {s : ByteArray} (h : s.toList = ([99, 99] : List UInt8)) : knownB s = true := by
  unfold knownB
  rw [List.any_eq_true]
  exact ⟨⟨#[99, 99]⟩, by simp [namesL], by rw [h, ByteArray.toList_eq]; rfl⟩

/-- Is an edge below nought? -/
def negB (l : List (Int × S67)) : Bool := l.any fun x => decide (x.2.f1 < 0)
theorem neg_iff (l : List (Int × S67)) : KCheckS.Neg l ↔ negB l = true := by
  unfold KCheckS.Neg negB
  rw [List.any_eq_true]
  constructor
  · rintro ⟨x, hx, h⟩
    exact ⟨x, hx, decide_eq_true h⟩
  · rintro ⟨x, hx, h⟩
    exact ⟨x, hx, of_decide_eq_true h⟩
def negE (es : List S67) : Bool := es.any fun x => decide (x.f1 < 0)
theorem neg_of (v : S53) : negB (ofV v) = negE v.f2 := by
  unfold negB negE ofV
  rw [List.any_map]
  rfl
theorem neg_append (a b : List (Int × S67)) : negB (a ++ b) = (negB a || negB b) := by
  unfold negB
  exact List.any_append

theorem edges_l1 (s : ByteArray) (L : List S53) (hL : L.length ≤ 256) (i : Nat) (hi : i < L.length) (hE : (L.getD i z53).f2.length ≤ 9223372036854775806) (k : Nat) : ∀ (m j : Nat), j + m = (L.getD i z53).f2.length →
    cohortref07_Check.l1 (m + 1 + k) s (L.map r59) (i : Int) (j : Int) = if negE ((L.getD i z53).f2.drop j) = true then some 71 else cohortref07_Check.l0 k s (L.map r59) ((i + 1 : Nat) : Int) := by
  intro m
  have hm : (L.map r59).length = L.length := List.length_map _
  have hr : (rd_T59 (L.map r59) (i : Int)).f2 = (L.getD i z53).f2.map r140 := by rw [rd59 L i hi]; rfl
  have hml : ((L.getD i z53).f2.map r140).length = (L.getD i z53).f2.length := List.length_map _
  induction m with
  | zero =>
    intro j hj
    rw [show 0 + 1 + k = k + 1 by omega, cohortref07_Check.l1, if_pos (by omega), if_pos (by rw [hm]; omega), hr, hml, if_neg (by omega), List.drop_of_length_le (by omega), wrap_succ (by omega)]
    rfl
  | succ m ih =>
    intro j hj
    have hlt : j < (L.getD i z53).f2.length := by omega
    rw [show m + 1 + 1 + k = (m + 1 + k) + 1 by omega, cohortref07_Check.l1, if_pos (by omega), if_pos (by rw [hm]; omega), hr, hml, if_pos (by omega), if_pos (by omega), rd140 _ j hlt, drop_getD _ j z67 hlt]
    have hn : ∀ (e : S67) (t : List S67), negE (e :: t) = (decide (e.f1 < 0) || negE t) := fun e t => by unfold negE; rw [List.any_cons]
    rw [hn]
    by_cases h : ((L.getD i z53).f2.getD j z67).f1 < 0
    · rw [if_pos (show (r140 ((L.getD i z53).f2.getD j z67)).f1 < 0 from h), decide_eq_true h, Bool.true_or, if_pos rfl]
    · rw [if_neg (show ¬ (r140 ((L.getD i z53).f2.getD j z67)).f1 < 0 from h), decide_eq_false h, Bool.false_or, wrap_succ (by omega)]
      exact ih (j + 1) (by omega)
theorem verts_l0 (s : ByteArray) (hs : s.toList = ([115, 115, 115, 112] : List UInt8)) (L : List S53) (hL : L.length ≤ 256) (hE : ∀ v ∈ L, v.f2.length ≤ 9223372036854775806) : ∀ (m i : Nat), i + m = L.length →
    ∃ k, cohortref07_Check.l0 k s (L.map r59) (i : Int) = some (if negB (allOf (L.drop i)) = true then 71 else 0) := by
  intro m
  have hm : (L.map r59).length = L.length := List.length_map _
  have hb : (s.toList == ([115, 115, 115, 112] : List UInt8)) = true := beq_iff_eq.mpr hs
  induction m with
  | zero =>
    intro i hi
    refine ⟨2, ?_⟩
    rw [cohortref07_Check.l0, hm, if_neg (by omega), cohortref07_Check.j2, if_neg (by decide), List.drop_of_length_le (by omega)]
    rfl
  | succ m ih =>
    intro i hi
    have hlt : i < L.length := by omega
    obtain ⟨k, hk⟩ := ih (i + 1) (by omega)
    have he := edges_l1 s L hL i hlt (hE _ (getD_mem L i z53 hlt)) k (L.getD i z53).f2.length 0 (by omega)
    refine ⟨(L.getD i z53).f2.length + 1 + k + 1 + 1, ?_⟩
    rw [cohortref07_Check.l0, hm, if_pos (by omega), cohortref07_Check.j2, hb, if_pos rfl]
    have he' : cohortref07_Check.l1 ((L.getD i z53).f2.length + 1 + k) s (L.map r59) (i : Int) 0 = _ := he
    rw [he', List.drop_zero, hk, drop_getD L i z53 hlt]
    have ha : allOf (L.getD i z53 :: L.drop (i + 1)) = ofV (L.getD i z53) ++ allOf (L.drop (i + 1)) := by rw [allOf, List.flatMap_cons]; rfl
    rw [ha, neg_append, neg_of]
    by_cases h : negE (L.getD i z53).f2 = true
    · rw [if_pos h, h, Bool.true_or, if_pos rfl]
    · have h' : negE (L.getD i z53).f2 = false := by simpa using h
      rw [if_neg h, h', Bool.false_or]

theorem l0_up {s : ByteArray} {M : List S59} {i r : Int} {k : Nat} (h : cohortref07_Check.l0 k s M i = some r) : ∀ d : Nat, cohortref07_Check.l0 (k + d) s M i = some r := by
  intro d
  induction d with
  | zero => exact h
  | succ d ih => exact (cohortref07_Check.mono_l (k + d)).2.1 s M i r ih

/-- What is said of a program's parameters. -/
def kr (s : ByteArray) (L : List S53) (p : List Int) : Int :=
  if s.toList = ([98, 102, 115] : List UInt8) then srcR L p else if s.toList = ([115, 115, 115, 112] : List UInt8) then (if negB (allOf L) = true then 71 else srcR L p) else if s.toList = ([112, 97, 103, 101, 114, 97, 110, 107] : List UInt8) then turnsR p else if s.toList = ([100, 101, 103, 114, 101, 101] : List UInt8) then noneR p else if s.toList = ([99, 99] : List UInt8) then noneR p else 70

theorem j0_true (s : ByteArray) (L : List S53) (hL : L.length ≤ 256) (p : List Int) (x14 : ByteArray) (r : Int) (k : Nat) (hk : L.length < k) (hl : cohortref07_Check.l0 k s (L.map r59) 0 = some r) :
    cohortref07_Check.j0 (k + 1) s (L.map r59) p (p.length : Int) x14 true = some (if p.length = 1 then (if isR L (rd p 0) = true then r else 71) else 71) := by
  rw [cohortref07_Check.j0, if_pos rfl]
  by_cases h : p.length = 1
  · rw [if_pos (by omega), if_pos (by omega), if_pos h, ref_find L (by omega) _ hk, Option.bind_some]
    by_cases h2 : isR L (rd p 0) = true
    · rw [if_pos h2, if_pos h2, hl]
    · rw [if_neg h2, if_neg h2]
  · rw [if_neg (by omega), if_neg h]

theorem ref_bfs (s : ByteArray) (hs : s.toList = ([98, 102, 115] : List UInt8)) (L : List S53) (hL : L.length ≤ 256) (p : List Int) : ∃ k, cohortref07_Check.f k s (L.map r59) p = some (srcR L p) := by
  have hb : (s.toList == ([115, 115, 115, 112] : List UInt8)) = false := by rw [hs]; decide
  have hl : cohortref07_Check.l0 (L.length + 2) s (L.map r59) 0 = some 0 := by
    have hm : (L.map r59).length = L.length := List.length_map _
    rw [cohortref07_Check.l0, hm, hb]
    by_cases h : (0 : Int) < (L.length : Int)
    · rw [if_pos h, cohortref07_Check.j2, if_neg (by decide)]
    · rw [if_neg h, cohortref07_Check.j2, if_neg (by decide)]
  refine ⟨L.length + 2 + 1, ?_⟩
  unfold cohortref07_Check.f
  rw [if_pos hs, beq_iff_eq.mpr hs, j0_true s L hL p s 0 (L.length + 2) (by omega) hl]
  rfl
theorem ref_sssp (s : ByteArray) (hs : s.toList = ([115, 115, 115, 112] : List UInt8)) (L : List S53) (hL : L.length ≤ 256) (hE : ∀ v ∈ L, v.f2.length ≤ 9223372036854775806) (p : List Int) : ∃ k, cohortref07_Check.f k s (L.map r59) p = some (if negB (allOf L) = true then 71 else srcR L p) := by
  obtain ⟨k, hk⟩ := verts_l0 s hs L hL hE L.length 0 (by omega)
  have hl := l0_up hk (L.length + 1)
  rw [List.drop_zero] at hl
  refine ⟨k + (L.length + 1) + 1, ?_⟩
  unfold cohortref07_Check.f
  rw [if_neg (by rw [hs]; decide), beq_iff_eq.mpr hs, j0_true s L hL p s _ (k + (L.length + 1)) (by omega) hl]
  unfold srcR
  by_cases h : negB (allOf L) = true
  · rw [if_pos h, if_pos h, ite_self, ite_self]
  · rw [if_neg h, if_neg h]
theorem ref_pr (s : ByteArray) (hs : s.toList = ([112, 97, 103, 101, 114, 97, 110, 107] : List UInt8)) (L : List S53) (p : List Int) : ∃ k, cohortref07_Check.f k s (L.map r59) p = some (turnsR p) := by
  refine ⟨2, ?_⟩
  unfold cohortref07_Check.f
  rw [if_neg (by rw [hs]; decide), show (s.toList == ([115, 115, 115, 112] : List UInt8)) = false from by rw [hs]; decide, cohortref07_Check.j0, if_neg (by decide), if_pos hs, beq_iff_eq.mpr hs, cohortref07_Check.j4, if_pos rfl]
  unfold turnsR
  by_cases h : p.length = 1
  · rw [if_pos (by omega), if_pos (by omega), if_pos h]
    by_cases h1 : rd p 0 < 0
    · rw [if_pos h1, if_pos h1]
    · rw [if_neg h1, if_neg h1]
      by_cases h2 : rd p 0 > 100
      · rw [if_pos h2, if_pos h2]
      · rw [if_neg h2, if_neg h2]
  · rw [if_neg (by omega), if_neg h]
theorem ref_none (s : ByteArray) (h1 : s.toList ≠ ([98, 102, 115] : List UInt8)) (h2 : s.toList ≠ ([115, 115, 115, 112] : List UInt8)) (h3 : s.toList ≠ ([112, 97, 103, 101, 114, 97, 110, 107] : List UInt8)) (h4 : s.toList ≠ ([108, 97, 98, 101, 108, 115] : List UInt8)) (h5 : s.toList ≠ ([107, 99, 111, 114, 101] : List UInt8)) (hk : knownB s = true) (L : List S53) (p : List Int) : ∃ k, cohortref07_Check.f k s (L.map r59) p = some (noneR p) := by
  refine ⟨13, ?_⟩
  unfold cohortref07_Check.f
  rw [if_neg h1, beq_eq_false_iff_ne.mpr h2, cohortref07_Check.j0, if_neg (by decide), if_neg h3, beq_eq_false_iff_ne.mpr h4, cohortref07_Check.j4, if_neg (by decide), if_neg h5, known_f s (by omega), Option.bind_some, if_pos hk]
  unfold noneR
  by_cases h : p.length = 0
  · rw [if_pos (by omega), if_pos h]
  · rw [if_neg (by omega), if_neg h]
def Own (s : ByteArray) : Prop := s.toList = ([98, 102, 115] : List UInt8) ∨ s.toList = ([115, 115, 115, 112] : List UInt8) ∨ s.toList = ([100, 101, 103, 114, 101, 101] : List UInt8) ∨ s.toList = ([112, 97, 103, 101, 114, 97, 110, 107] : List UInt8) ∨ s.toList = ([99, 99] : List UInt8)
theorem ref_own (s : ByteArray) (hs : Own s) (L : List S53) (hL : L.length ≤ 256) (hE : ∀ v ∈ L, v.f2.length ≤ 9223372036854775806) (p : List Int) : ∃ k, cohortref07_Check.f k s (L.map r59) p = some (kr s L p) := by
  unfold kr
  rcases hs with h | h | h | h | h
  · rw [if_pos h]
    exact ref_bfs s h L hL p
  · rw [if_neg (by rw [h]; decide), if_pos h]
    exact ref_sssp s h L hL hE p
  · rw [if_neg (by rw [h]; decide), if_neg (by rw [h]; decide), if_neg (by rw [h]; decide), if_pos h]
    exact ref_none s (by rw [h]; decide) (by rw [h]; decide) (by rw [h]; decide) (by rw [h]; decide) (by rw [h]; decide) (known_degree h) L p
  · rw [if_neg (by rw [h]; decide), if_neg (by rw [h]; decide), if_pos h]
    exact ref_pr s h L p
  · rw [if_neg (by rw [h]; decide), if_neg (by rw [h]; decide), if_neg (by rw [h]; decide), if_neg (by rw [h]; decide), if_pos h]
    exact ref_none s (by rw [h]; decide) (by rw [h]; decide) (by rw [h]; decide) (by rw [h]; decide) (by rw [h]; decide) (known_cc h) L p
theorem kr_other {s : ByteArray} (h : ¬ Own s) (L : List S53) (p : List Int) : kr s L p = 70 := by
  unfold Own at h
  unfold kr
  rw [if_neg (fun e => h (.inl e)), if_neg (fun e => h (.inr (.inl e))), if_neg (fun e => h (.inr (.inr (.inr (.inl e))))), if_neg (fun e => h (.inr (.inr (.inl e)))), if_neg (fun e => h (.inr (.inr (.inr (.inr e)))))]
end Go.Proofs.Ytbeefbhoccdicaa.RefK
