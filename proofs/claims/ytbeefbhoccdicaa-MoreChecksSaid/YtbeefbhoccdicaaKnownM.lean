/- Which programs are known: the search among the names says what looking through them says. -/
import Derived.Test.YtbeefbhoccdicaaRefK
import Derived.Test.YtbeefbhoccdicaaQMorex1
namespace Go.Proofs.Ytbeefbhoccdicaa.KnownM
open Go.RowKit Go.Proofs.YtbeefbhoccdicaaW.PrintWords Go.Proofs.YtbeefbhoccdicaaW.PrintLast Go.Proofs.YtbeefbhoccdicaaW.PrintMore Go.Proofs.Ytbeefbhoccdicaa.QGraphReads Go.Proofs.Ytbeefbhoccdicaa.WireNum Go.Proofs.Ytbeefbhoccdicaa.PutG Go.Proofs.Ytbeefbhoccdicaa.RefSpec Go.Proofs.Ytbeefbhoccdicaa.RefCheck Go.Proofs.Ytbeefbhoccdicaa.RefK
set_option linter.unusedVariables false

theorem less_f (a b : ByteArray) : cmp_Less_string.f a b = some (Op.bytesLess a.toList b.toList) := by
  unfold cmp_Less_string.f cmp_isNaN_string.f
  rw [Option.bind_some, bne_self_eq_false, if_neg (by decide)]
def nm (i : Nat) : ByteArray := namesL.getD i ByteArray.empty
theorem rd_nm (i : Nat) : rdOf ByteArray.empty namesL (i : Int) = nm i := by
  unfold rdOf nm
  rw [Int.toNat_natCast]
theorem search_l0 (s : ByteArray) : ∀ (d lo hi k : Nat), hi - lo ≤ d → lo ≤ hi → hi ≤ 10 → d < k →
    ∃ i : Nat, lo ≤ i ∧ i ≤ hi ∧ slices_BinarySearch_string_string.l0 k namesL s 10 (lo : Int) (hi : Int) = some ((i : Int), decide (i < 10) && (nm i).toList == s.toList) ∧
      ∀ j : Nat, lo ≤ j → j ≤ hi → (∀ m : Nat, m < 10 → Op.bytesLess (nm m).toList s.toList = decide (m < j)) → i = j := by
  intro d
  have hlen : namesL.length = 10 := rfl
  induction d with
  | zero =>
    intro lo hi k h1 h2 h3 hk
    obtain ⟨k, rfl⟩ : ∃ j, k = j + 1 := ⟨k - 1, by omega⟩
    have he : lo = hi := by omega
    subst he
    refine ⟨lo, Nat.le_refl _, Nat.le_refl _, ?_, fun j a b _ => by omega⟩
    rw [slices_BinarySearch_string_string.l0, if_neg (by omega)]
    by_cases hlt : lo < 10
    · rw [if_pos (by omega), if_pos (by omega), if_pos (by rw [hlen]; omega), rd_nm, decide_eq_true hlt, Bool.true_and]
      by_cases hq : (nm lo).toList = s.toList
      · rw [if_pos hq, beq_iff_eq.mpr hq]
      · rw [if_neg hq, beq_eq_false_iff_ne.mpr hq]
        unfold slices_isNaN_string.f
        rw [Option.bind_some, bne_self_eq_false, if_neg (by decide)]
    · rw [if_neg (by omega), decide_eq_false hlt, Bool.false_and]
  | succ d ih =>
    intro lo hi k h1 h2 h3 hk
    by_cases he : lo = hi
    · exact (fun ⟨i, a, b, c, e⟩ => ⟨i, a, b, c, e⟩) (ih lo hi k (by omega) h2 h3 (by omega))
    · obtain ⟨k, rfl⟩ : ∃ j, k = j + 1 := ⟨k - 1, by omega⟩
      have hmid : wrap64 ((IntKind.u64.wrap (wrap64 ((lo : Int) + (hi : Int)))) / 2) = (((lo + hi) / 2 : Nat) : Int) := by
        rw [wrap_in (a := (lo : Int) + hi) (by unfold In; omega), IntKind.wrap_u64, wrap_in (by unfold In; omega)]
        omega
      rw [slices_BinarySearch_string_string.l0, hmid, if_pos (by omega), if_pos (by omega), if_pos (by rw [hlen]; omega), rd_nm, less_f, Option.bind_some]
      generalize hm : (lo + hi) / 2 = mid
      have hml : lo ≤ mid ∧ mid < hi := by omega
      by_cases hb : Op.bytesLess (nm mid).toList s.toList = true
      · rw [if_pos hb, wrap_succ (by omega)]
        obtain ⟨i, a, b, c, e⟩ := ih (mid + 1) hi k (by omega) (by omega) h3 (by omega)
        refine ⟨i, by omega, b, c, fun j j1 j2 hj => ?_⟩
        have := hj mid (by omega)
        rw [hb] at this
        have : mid < j := of_decide_eq_true this.symm
        exact e j (by omega) j2 hj
      · rw [if_neg hb]
        obtain ⟨i, a, b, c, e⟩ := ih lo mid k (by omega) (by omega) (by omega) (by omega)
        refine ⟨i, a, by omega, c, fun j j1 j2 hj => ?_⟩
        have h4 := hj mid (by omega)
        rw [Bool.eq_false_iff.mpr hb] at h4
        have : ¬ mid < j := of_decide_eq_false h4.symm
        exact e j j1 (by omega) hj

def namesU : List (List UInt8) := namesL.map fun n => n.data.toList
theorem order : ∀ m, m < 10 → ∀ j, j < 10 → Op.bytesLess (namesU.getD m []) (namesU.getD j []) = decide (m < j) := by decide
theorem nm_list (i : Nat) (h : i < 10) : (nm i).toList = namesU.getD i [] := by
  rw [ByteArray.toList_eq]
  unfold nm namesU
  have hl : i < namesL.length := h
  rw [List.getD_eq_getElem?_getD, List.getD_eq_getElem?_getD, List.getElem?_map, List.getElem?_eq_getElem hl]
  rfl
theorem known_more (s : ByteArray) : more_Known.f 20 s = some (knownB s) := by
  unfold more_Known.f
  have hp : kern_Programs.f = some namesL := rfl
  obtain ⟨i, _, hi, h2, h3⟩ := search_l0 s 10 0 10 20 (by omega) (by omega) (by omega) (by omega)
  have h4 : slices_BinarySearch_string_string.f 20 namesL s = some ((i : Int), decide (i < 10) && (nm i).toList == s.toList) := h2
  rw [hp, Option.bind_some, h4, Option.bind_some]
  refine congrArg some ?_
  show (decide (i < 10) && (nm i).toList == s.toList) = knownB s
  unfold knownB
  have hlen : namesL.length = 10 := rfl
  cases hk : namesL.any fun n => n.toList == s.toList with
  | false =>
    rw [List.any_eq_false] at hk
    by_cases hlt : i < 10
    · have := hk (nm i) (getD_mem namesL i ByteArray.empty hlt)
      rw [decide_eq_true hlt, Bool.true_and]
      simpa using this
    · rw [decide_eq_false hlt, Bool.false_and]
  | true =>
    rw [List.any_eq_true] at hk
    obtain ⟨n, hn, hq⟩ := hk
    obtain ⟨j, hj, hjn⟩ := List.getElem_of_mem hn
    have hj10 : j < 10 := hj
    have hnm : nm j = n := by
      unfold nm
      rw [List.getD_eq_getElem?_getD, List.getElem?_eq_getElem hj, hjn]
      rfl
    have hs : s.toList = namesU.getD j [] := by rw [← nm_list j hj10, hnm]; exact (beq_iff_eq.mp hq).symm
    have := h3 j (by omega) (by omega) (fun m hm => by rw [nm_list m hm, hs]; exact order m hm j hj10)
    subst this
    rw [decide_eq_true hj10, Bool.true_and, hnm]
    exact hq
end Go.Proofs.Ytbeefbhoccdicaa.KnownM
