/- A graph as the document has it: plain words. -/
import Derived.Test.YtbeefbhoccdicaaCheckG
import Derived.Test.YtbeefbhoccdicaaQGraphReadsx1
namespace Go.Proofs.Ytbeefbhoccdicaa.RefSpec
open Go.RowKit Go.Proofs.YtbeefbhoccdicaaW.PrintWords Go.Proofs.YtbeefbhoccdicaaW.PrintLast Go.Proofs.YtbeefbhoccdicaaW.PrintMore Go.Proofs.Ytbeefbhoccdicaa.QGraphReads Go.Proofs.Ytbeefbhoccdicaa.WireNum Go.Proofs.Ytbeefbhoccdicaa.PutG Go.Proofs.Ytbeefbhoccdicaa.FindG Go.Proofs.Ytbeefbhoccdicaa.EdgesG Go.Proofs.Ytbeefbhoccdicaa.AllG Go.Proofs.Ytbeefbhoccdicaa.CheckG
set_option linter.unusedVariables false

def r140 (e : S67) : S140 := ⟨e.f0, e.f1⟩
def r59 (v : S53) : S59 := ⟨v.f0, v.f1, v.f2.map r140⟩

theorem wrap_succ {n : Nat} (h : n < 9223372036854775807) : wrap64 ((n : Int) + 1) = ((n + 1 : Nat) : Int) := by
  rw [wrap_in (by unfold In; omega)]
  omega

theorem ref_l1 (L : List S53) (x3 : List S59) (x4 : Int) (a b c d : Int) (es : List S67) (hl : es.length ≤ 8796093022208) (hx : x3.length < 3518437208883) (k : Nat) : ∀ (m j : Nat) (acc : List S140), j + m = es.length → acc.length = j →
    cohortlaw03_Ref.l1 (m + 1 + k) x3 x4 (j : Int) L a b es c d acc = cohortlaw03_Ref.l0 k (x3 ++ [⟨c, d, acc ++ (es.drop j).map r140⟩]) (wrap64 (x4 + 1)) L := by
  intro m
  induction m with
  | zero =>
    intro j acc h1 h2
    rw [show 0 + 1 + k = k + 1 from by omega, cohortlaw03_Ref.l1, if_neg (by omega), if_pos hx, List.drop_eq_nil_of_le (by omega), List.map_nil, List.append_nil]
  | succ m ih =>
    intro j acc h1 h2
    have hlt : j < es.length := by omega
    rw [show m + 1 + 1 + k = (m + 1 + k) + 1 from by omega, cohortlaw03_Ref.l1, if_pos (by omega), if_pos (by omega), if_pos (by omega), wrap_succ (by omega),
      ih (j + 1) _ (by omega) (by rw [List.length_append]; simp only [List.length_cons, List.length_nil]; omega)]
    have hd : es.drop j = rd_T67 es (j : Int) :: es.drop (j + 1) := by
      rw [List.drop_eq_getElem_cons hlt]
      congr 1
      unfold rd_T67
      rw [Int.toNat_natCast, List.getD_eq_getElem?_getD, List.getElem?_eq_getElem hlt]
      rfl
    rw [hd, List.map_cons, List.append_assoc]
    rfl

theorem ref_l0 (L : List S53) (hL : L.length < 3518437208883) (he : ∀ v ∈ L, v.f2.length ≤ 8796093022208) : ∀ (m i : Nat) (acc : List S59), i + m = L.length → acc.length = i →
    ∃ k, cohortlaw03_Ref.l0 k acc (i : Int) L = some (acc ++ (L.drop i).map r59) := by
  intro m
  induction m with
  | zero =>
    intro i acc h1 h2
    refine ⟨1, ?_⟩
    rw [cohortlaw03_Ref.l0, if_neg (by omega), List.drop_eq_nil_of_le (by omega), List.map_nil, List.append_nil]
  | succ m ih =>
    intro i acc h1 h2
    have hlt : i < L.length := by omega
    have hv : rd_T53 L (i : Int) = L[i] := by
      unfold rd_T53
      rw [Int.toNat_natCast, List.getD_eq_getElem?_getD, List.getElem?_eq_getElem hlt]
      rfl
    obtain ⟨k, hk⟩ := ih (i + 1) (acc ++ [r59 L[i]]) (by omega) (by rw [List.length_append]; simp only [List.length_cons, List.length_nil]; omega)
    refine ⟨(L[i].f2.length + 1 + k) + 1, ?_⟩
    rw [cohortlaw03_Ref.l0, if_pos (by omega), if_pos (by omega), hv]
    have h := ref_l1 L acc (i : Int) L[i].f0 L[i].f1 L[i].f0 L[i].f1 L[i].f2 (he _ (List.getElem_mem hlt)) (by omega) k L[i].f2.length 0 [] (by omega) rfl
    rw [wrap_succ (by omega), List.drop_zero, List.nil_append] at h
    refine h.trans ?_
    have hr : (⟨L[i].f0, L[i].f1, L[i].f2.map r140⟩ : S59) = r59 L[i] := rfl
    rw [hr, hk, List.drop_eq_getElem_cons hlt, List.map_cons, List.append_assoc]
    rfl

theorem ref_ref (L : List S53) (hL : L.length < 3518437208883) (he : ∀ v ∈ L, v.f2.length ≤ 8796093022208) : ∃ k, cohortlaw03_Ref.f k L = some (L.map r59) := by
  obtain ⟨k, hk⟩ := ref_l0 L hL he L.length 0 [] (by omega) rfl
  exact ⟨k, by unfold cohortlaw03_Ref.f; rw [List.drop_zero, List.nil_append] at hk; exact hk⟩


end Go.Proofs.Ytbeefbhoccdicaa.RefSpec
