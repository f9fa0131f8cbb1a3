/- The document's check says what the program's says: plain words. -/
import Derived.Test.YtbeefbhoccdicaaRefR
import Derived.Test.YtbeefbhoccdicaaQGraphReadsx6
namespace Go.Proofs.Ytbeefbhoccdicaa.RefCheck
open Go.RowKit Go.Proofs.YtbeefbhoccdicaaW.PrintWords Go.Proofs.YtbeefbhoccdicaaW.PrintLast Go.Proofs.YtbeefbhoccdicaaW.PrintMore Go.Proofs.Ytbeefbhoccdicaa.QGraphReads Go.Proofs.Ytbeefbhoccdicaa.WireNum Go.Proofs.Ytbeefbhoccdicaa.PutG Go.Proofs.Ytbeefbhoccdicaa.FindG Go.Proofs.Ytbeefbhoccdicaa.EdgesG Go.Proofs.Ytbeefbhoccdicaa.AllG Go.Proofs.Ytbeefbhoccdicaa.CheckG Go.Proofs.Ytbeefbhoccdicaa.RefSpec
set_option linter.unusedVariables false

theorem rd59 (L : List S53) (i : Nat) (h : i < L.length) : rd_T59 (L.map r59) (i : Int) = r59 (L.getD i z53) := by
  unfold rd_T59
  rw [Int.toNat_natCast, List.getD_eq_getElem?_getD, List.getElem?_map, List.getD_eq_getElem?_getD, List.getElem?_eq_getElem h]
  rfl
theorem rd140 (es : List S67) (i : Nat) (h : i < es.length) : rd_T140 (es.map r140) (i : Int) = r140 (es.getD i z67) := by
  unfold rd_T140
  rw [Int.toNat_natCast, List.getD_eq_getElem?_getD, List.getElem?_map, List.getD_eq_getElem?_getD, List.getElem?_eq_getElem h]
  rfl
theorem drop_getD {α : Type} (l : List α) (i : Nat) (z : α) (h : i < l.length) : l.drop i = l.getD i z :: l.drop (i + 1) := by
  rw [List.drop_eq_getElem_cons h, List.getD_eq_getElem?_getD, List.getElem?_eq_getElem h]
  rfl

theorem find_l0 (L : List S53) (hL : L.length ≤ 9223372036854775806) (x : Int) : ∀ (m i k : Nat), i + m = L.length → m < k →
    cohortref03_Find.l0 k (L.map r59) x (i : Int) = some (((i + lowR (L.drop i) x : Nat) : Int), decide (i + lowR (L.drop i) x < L.length) && (idAt L (i + lowR (L.drop i) x) == x)) := by
  intro m
  induction m with
  | zero =>
    intro i k h1 h2
    obtain ⟨k, rfl⟩ : ∃ q, k = q + 1 := ⟨k - 1, by omega⟩
    rw [cohortref03_Find.l0, if_neg (by rw [List.length_map]; omega), List.drop_eq_nil_of_le (by omega)]
    show some ((i : Int), false) = some (((i + 0 : Nat) : Int), decide (i + 0 < L.length) && (idAt L (i + 0) == x))
    rw [decide_eq_false (show ¬ i + 0 < L.length by omega)]
    rfl
  | succ m ih =>
    intro i k h1 h2
    obtain ⟨k, rfl⟩ : ∃ q, k = q + 1 := ⟨k - 1, by omega⟩
    have hlt : i < L.length := by omega
    rw [cohortref03_Find.l0, if_pos (by rw [List.length_map]; omega), if_pos (by omega), rd59 L i hlt, drop_getD L i z53 hlt, lowR]
    by_cases hc : (L.getD i z53).f0 < x
    · have hc' : (r59 (L.getD i z53)).f0 < x := hc
      rw [if_pos hc', if_pos hc, wrap_succ (by omega), ih (i + 1) k (by omega) (by omega)]
      rw [show i + (lowR (L.drop (i + 1)) x + 1) = i + 1 + lowR (L.drop (i + 1)) x from by omega]
    · have hc' : ¬ (r59 (L.getD i z53)).f0 < x := hc
      rw [if_neg hc', if_neg hc, Nat.add_zero, decide_eq_true hlt]
      rfl
theorem ref_find (L : List S53) (hL : L.length ≤ 9223372036854775806) (x : Int) {k : Nat} (hk : L.length < k) : cohortref03_Find.f k (L.map r59) x = some ((lowR L x : Int), isR L x) := by
  have h := find_l0 L hL x L.length 0 k (by omega) hk
  rw [List.drop_zero, Nat.zero_add] at h
  exact h

theorem wrap_add (a : Int) (n : Nat) : wrap64 (wrap64 a + (n : Int)) = wrap64 (a + n) := by
  unfold wrap64
  omega
theorem edges_l0 (L : List S53) (hL : L.length ≤ 9223372036854775806) : ∀ (m i k : Nat) (a : Int), i + m = L.length → m < k →
    cohortref03_Edges.l0 k (L.map r59) (wrap64 a) (i : Int) = some (wrap64 (a + (allOf (L.drop i)).length)) := by
  intro m
  induction m with
  | zero =>
    intro i k a h1 h2
    obtain ⟨k, rfl⟩ : ∃ q, k = q + 1 := ⟨k - 1, by omega⟩
    rw [cohortref03_Edges.l0, if_neg (by rw [List.length_map]; omega), List.drop_eq_nil_of_le (by omega)]
    simp [allOf]
  | succ m ih =>
    intro i k a h1 h2
    obtain ⟨k, rfl⟩ : ∃ q, k = q + 1 := ⟨k - 1, by omega⟩
    have hlt : i < L.length := by omega
    have hl : ((r59 (L.getD i z53)).f2.length : Int) = ((L.getD i z53).f2.length : Nat) := by unfold r59; rw [List.length_map]
    rw [cohortref03_Edges.l0, if_pos (by rw [List.length_map]; omega), if_pos (by omega), rd59 L i hlt, hl, wrap_add, wrap_succ (by omega), ih (i + 1) k _ (by omega) (by omega), drop_getD L i z53 hlt]
    have ha : (allOf (L.getD i z53 :: L.drop (i + 1))).length = (L.getD i z53).f2.length + (allOf (L.drop (i + 1))).length := by
      rw [allOf, List.flatMap_cons, List.length_append, ofV, List.length_map]
      rfl
    rw [ha]
    congr 2
    omega
theorem ref_count (L : List S53) (hL : L.length ≤ 9223372036854775806) {k : Nat} (hk : L.length < k) : cohortref03_Edges.f k (L.map r59) = some (wrap64 (allOf L).length) := by
  have h := edges_l0 L hL L.length 0 k 0 (by omega) hk
  rw [List.drop_zero, Int.zero_add, show wrap64 0 = 0 from by unfold wrap64; omega] at h
  exact h

/-- No bad edge from a place on. -/
def OkFrom (L : List S53) (es : List S67) (j : Nat) : Prop := ∀ q, j ≤ q → q < es.length → edgeBad L es q = false

theorem check_l2 (L : List S53) (hL : L.length ≤ 256) (i : Int) (es : List S67) (hE : es.length ≤ 9223372036854775806) (k : Nat) (hk : L.length < k) : ∀ (m j : Nat), j + m = es.length →
    (OkFrom L es j → cohortref03_Check.l2 (m + 1 + k) (L.map r59) i (es.map r140) (j : Int) = cohortref03_Check.l1 k (L.map r59) (wrap64 (i + 1))) ∧
    (¬ OkFrom L es j → cohortref03_Check.l2 (m + 1 + k) (L.map r59) i (es.map r140) (j : Int) = some 31) := by
  intro m
  induction m with
  | zero =>
    intro j h1
    rw [show 0 + 1 + k = k + 1 from by omega, cohortref03_Check.l2, if_neg (by rw [List.length_map]; omega)]
    exact ⟨fun _ => rfl, fun h => absurd (fun q h2 h3 => by omega) h⟩
  | succ m ih =>
    intro j h1
    have hlt : j < es.length := by omega
    obtain ⟨ihA, ihB⟩ := ih (j + 1) (by omega)
    rw [show m + 1 + 1 + k = (m + 1 + k) + 1 from by omega, cohortref03_Check.l2, if_pos (by rw [List.length_map]; omega), if_pos (by omega), rd140 es j hlt]
    have hto : (r140 (es.getD j z67)).f0 = toAt es j := rfl
    rw [hto, ref_find L (by omega) _ (by omega)]
    simp only [Option.bind_some]
    have hstep : edgeBad L es j = false → (OkFrom L es j ↔ OkFrom L es (j + 1)) := fun hb => ⟨fun h q h2 h3 => h q (by omega) h3, fun h q h2 h3 => by
      by_cases hq : q = j
      · subst hq; exact hb
      · exact h q (by omega) h3⟩
    have hbad : edgeBad L es j = true → ¬ OkFrom L es j := fun hb h => by
      have := h j (Nat.le_refl _) hlt
      rw [hb] at this
      cases this
    have hgo : edgeBad L es j = false →
      ((OkFrom L es j → cohortref03_Check.l2 (m + 1 + k) (L.map r59) i (es.map r140) (wrap64 ((j : Int) + 1)) = cohortref03_Check.l1 k (L.map r59) (wrap64 (i + 1))) ∧
      (¬ OkFrom L es j → cohortref03_Check.l2 (m + 1 + k) (L.map r59) i (es.map r140) (wrap64 ((j : Int) + 1)) = some 31)) := fun hb => by
      rw [wrap_succ (by omega), hstep hb]
      exact ⟨ihA, ihB⟩
    by_cases hf : isR L (toAt es j) = true
    · rw [if_pos hf]
      by_cases hj : j = 0
      · subst hj
        rw [if_neg (by omega)]
        exact hgo (by rw [edgeBad, hf]; rfl)
      · have hw : wrap64 ((j : Int) - 1) = ((j - 1 : Nat) : Int) := by rw [wrap_in (by unfold In; omega)]; omega
        rw [if_pos (by omega), hw, if_pos (by omega), if_pos (by rw [List.length_map]; omega), rd140 es (j - 1) (by omega)]
        have hto2 : (r140 (es.getD (j - 1) z67)).f0 = toAt es (j - 1) := rfl
        rw [hto2]
        by_cases hge : toAt es (j - 1) ≥ toAt es j
        · rw [if_pos hge]
          have hb : edgeBad L es j = true := by rw [edgeBad, decide_eq_true (show 0 < j by omega), decide_eq_true (show toAt es j ≤ toAt es (j - 1) from hge)]; simp
          exact ⟨fun h => absurd h (hbad hb), fun _ => rfl⟩
        · rw [if_neg hge]
          exact hgo (by rw [edgeBad, hf, decide_eq_false (show ¬ toAt es j ≤ toAt es (j - 1) from hge)]; simp)
    · rw [if_neg hf]
      have hb : edgeBad L es j = true := by rw [edgeBad, Bool.eq_false_iff.2 hf]; rfl
      exact ⟨fun h => absurd h (hbad hb), fun _ => rfl⟩

/-- No bad vertex from a place on. -/
def AllFrom (L : List S53) (i : Nat) : Prop := ∀ q, i ≤ q → q < L.length → EdgesOk L (L.getD q z53).f2

theorem check_l1 (L : List S53) (hL : L.length ≤ 256) (hE : ∀ v ∈ L, v.f2.length ≤ 9223372036854775806) : ∀ (m i : Nat), i + m = L.length →
    ∃ k, L.length < k ∧ (AllFrom L i → cohortref03_Check.l1 k (L.map r59) (i : Int) = some 0) ∧ (¬ AllFrom L i → cohortref03_Check.l1 k (L.map r59) (i : Int) = some 31) := by
  intro m
  induction m with
  | zero =>
    intro i h1
    refine ⟨L.length + 1, by omega, ?_⟩
    rw [cohortref03_Check.l1, if_neg (by rw [List.length_map]; omega)]
    exact ⟨fun _ => rfl, fun h => absurd (fun q h2 h3 => by omega) h⟩
  | succ m ih =>
    intro i h1
    have hlt : i < L.length := by omega
    obtain ⟨k, hk, ihA, ihB⟩ := ih (i + 1) (by omega)
    have hes := hE _ (getD_mem L i z53 hlt)
    obtain ⟨hA, hB⟩ := check_l2 L hL (i : Int) (L.getD i z53).f2 hes k hk (L.getD i z53).f2.length 0 (by omega)
    refine ⟨((L.getD i z53).f2.length + 1 + k) + 1, by omega, ?_⟩
    rw [cohortref03_Check.l1, if_pos (by rw [List.length_map]; omega), if_pos (by omega), rd59 L i hlt]
    have h2 : (r59 (L.getD i z53)).f2 = (L.getD i z53).f2.map r140 := rfl
    rw [h2]
    by_cases hok : OkFrom L (L.getD i z53).f2 0
    · have hA' := hA hok
      rw [wrap_succ (by omega)] at hA'
      have hiff : AllFrom L i ↔ AllFrom L (i + 1) := ⟨fun h q h3 h4 => h q (by omega) h4, fun h q h3 h4 => by
        by_cases hq : q = i
        · subst hq; exact fun j hj => hok j (Nat.zero_le _) hj
        · exact h q (by omega) h4⟩
      refine ⟨fun h => hA'.trans (ihA (hiff.1 h)), fun h => hA'.trans (ihB (fun h2 => h (hiff.2 h2)))⟩
    · exact ⟨fun h => absurd (fun q _ hq => h i (Nat.le_refl _) hlt q hq) hok, fun _ => hB hok⟩

theorem l0_stop (L : List S53) (hL : L.length ≤ 256) (i k : Nat) (h0 : 1 ≤ i) (hlt : i < L.length) (h : idAt L i ≤ idAt L (i - 1)) : cohortref03_Check.l0 (k + 1) (L.map r59) (i : Int) = some 30 := by
  have hw : wrap64 ((i : Int) - 1) = ((i - 1 : Nat) : Int) := by rw [wrap_in (by unfold In; omega)]; omega
  rw [cohortref03_Check.l0, if_pos (by rw [List.length_map]; omega), hw, if_pos (by omega), if_pos (by rw [List.length_map]; omega), if_pos (by omega), rd59 L i hlt, rd59 L (i - 1) (by omega)]
  have h' : (r59 (L.getD (i - 1) z53)).f0 ≥ (r59 (L.getD i z53)).f0 := h
  rw [if_pos h']
theorem l0_go (L : List S53) (hL : L.length ≤ 256) (i k : Nat) (h0 : 1 ≤ i) (hlt : i < L.length) (h : ¬ idAt L i ≤ idAt L (i - 1)) : cohortref03_Check.l0 (k + 1) (L.map r59) (i : Int) = cohortref03_Check.l0 k (L.map r59) ((i + 1 : Nat) : Int) := by
  have hw : wrap64 ((i : Int) - 1) = ((i - 1 : Nat) : Int) := by rw [wrap_in (by unfold In; omega)]; omega
  rw [cohortref03_Check.l0, if_pos (by rw [List.length_map]; omega), hw, if_pos (by omega), if_pos (by rw [List.length_map]; omega), if_pos (by omega), rd59 L i hlt, rd59 L (i - 1) (by omega)]
  have h' : ¬ (r59 (L.getD (i - 1) z53)).f0 ≥ (r59 (L.getD i z53)).f0 := h
  rw [if_neg h', wrap_succ (by omega)]
theorem l0_end (L : List S53) (hL : L.length ≤ 256) (i k : Nat) (c : Int) (hge : L.length ≤ i) (hc : cohortref03_Edges.f k (L.map r59) = some c) : cohortref03_Check.l0 (k + 1) (L.map r59) (i : Int) = if c > 2048 then some 31 else cohortref03_Check.l1 k (L.map r59) 0 := by
  rw [cohortref03_Check.l0, if_neg (by rw [List.length_map]; omega), hc]
  rfl

theorem check_l0 (L : List S53) (hL : L.length ≤ 256) (hE : ∀ v ∈ L, v.f2.length ≤ 9223372036854775806) : ∀ (m i : Nat), 1 ≤ i → (i + m = L.length ∨ m = 0 ∧ L.length < i) → (∀ q, q + 1 < i → q + 1 < L.length → idAt L q < idAt L (q + 1)) →
    ∃ k r, cohortref03_Check.l0 k (L.map r59) (i : Int) = some r ∧ Checks L r := by
  intro m
  induction m with
  | zero =>
    intro i h0 h1 hg
    have hG : Grows L := fun q hq => hg q (by omega) hq
    obtain ⟨k, hk, hA, hB⟩ := check_l1 L hL hE L.length 0 (by omega)
    have hc := ref_count L (by omega) hk
    generalize hw : wrap64 ((allOf L).length : Int) = c at hc
    have he := l0_end L hL i k c (by omega) hc
    have h00 : (0 : Int) = ((0 : Nat) : Int) := rfl
    rw [h00] at he
    by_cases hm : c > 2048
    · rw [if_pos hm] at he
      exact ⟨k + 1, 31, he, .inr (.inr (.inl ⟨hL, hG, by rw [hw]; exact hm, rfl⟩))⟩
    · rw [if_neg hm] at he
      have hm' : wrap64 ((allOf L).length : Int) ≤ 2048 := by rw [hw]; exact Int.not_lt.1 hm
      by_cases ha : AllFrom L 0
      · exact ⟨k + 1, 0, he.trans (hA ha), .inr (.inr (.inr (.inr ⟨hL, hG, hm', fun q hq => ha q (Nat.zero_le _) hq, rfl⟩)))⟩
      · exact ⟨k + 1, 31, he.trans (hB ha), .inr (.inr (.inr (.inl ⟨hL, hG, hm', fun h => ha (fun q _ hq => h q hq), rfl⟩)))⟩
  | succ m ih =>
    intro i h0 h1 hg
    have hlt : i < L.length := by omega
    by_cases hge : idAt L i ≤ idAt L (i - 1)
    · refine ⟨0 + 1, 30, l0_stop L hL i 0 h0 hlt hge, .inr (.inl ⟨hL, fun h => ?_, rfl⟩)⟩
      have h2 := h (i - 1) (by omega)
      rw [show i - 1 + 1 = i from by omega] at h2
      exact Int.not_lt.2 hge h2
    · obtain ⟨k, r, hk, hr⟩ := ih (i + 1) (by omega) (by omega) (fun q h2 h3 => by
        by_cases hq : q + 1 = i
        · rw [hq, show q = i - 1 from by omega]; exact Int.not_le.1 hge
        · exact hg q (by omega) h3)
      exact ⟨k + 1, r, (l0_go L hL i k h0 hlt hge).trans hk, hr⟩

theorem ref_check (L : List S53) (hE : ∀ v ∈ L, v.f2.length ≤ 9223372036854775806) : ∃ k r, cohortref03_Check.f k (L.map r59) = some r ∧ Checks L r := by
  by_cases hL : L.length ≤ 256
  · obtain ⟨k, r, hk, hr⟩ := check_l0 L hL hE (L.length - 1) 1 (by omega) (by omega) (fun q h2 h3 => by omega)
    refine ⟨k, r, ?_, hr⟩
    unfold cohortref03_Check.f
    rw [if_neg (by rw [List.length_map]; omega)]
    exact hk
  · refine ⟨0, 30, ?_, .inl ⟨by omega, rfl⟩⟩
    unfold cohortref03_Check.f
    rw [if_pos (by rw [List.length_map]; omega)]
end Go.Proofs.Ytbeefbhoccdicaa.RefCheck
