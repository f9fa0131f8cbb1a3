/- Numbers of 64 bits; edges and vertices of such. -/
import Derived.Test.YtbeefbhoccdicaaQGraphReadsx0
import Derived.OpenShut
namespace Go.Proofs.Ytbeefbhoccdicaa.WireNum
open Go.RowKit Go.Proofs.YtbeefbhoccdicaaW.PrintWords Go.Proofs.YtbeefbhoccdicaaW.PrintLast Go.Proofs.YtbeefbhoccdicaaW.PrintMore Go.Proofs.Ytbeefbhoccdicaa.QGraphReads

/-- A signed number of 64 bits. -/
def In (a : Int) : Prop := -9223372036854775808 ≤ a ∧ a ≤ 9223372036854775807
/-- A number without sign of 64 bits. -/
def Un (a : Int) : Prop := 0 ≤ a ∧ a ≤ 18446744073709551615

theorem wrap_in {a : Int} (h : In a) : wrap64 a = a := by
  unfold In at h
  unfold wrap64
  omega

end Go.Proofs.Ytbeefbhoccdicaa.WireNum
namespace Go.Proofs.Ytbeefbhoccdicaa.PutG
open Go.RowKit Go.Proofs.YtbeefbhoccdicaaW.PrintWords Go.Proofs.YtbeefbhoccdicaaW.PrintLast Go.Proofs.YtbeefbhoccdicaaW.PrintMore Go.Proofs.Ytbeefbhoccdicaa.QGraphReads Go.Proofs.Ytbeefbhoccdicaa.WireNum
set_option linter.unusedVariables false

/-- All numbers of an edge, a vertex, are signed numbers of 64 bits. -/
def EdgeIn (e : S67) : Prop := In e.f0 ∧ In e.f1
def VertIn (v : S53) : Prop := In v.f0 ∧ In v.f1 ∧ ∀ e ∈ v.f2, EdgeIn e

theorem take_one {α : Type} (l : List α) (k : Nat) (z : α) (h : k < l.length) : l.take (k + 1) = l.take k ++ [l.getD k z] := by
  rw [List.take_succ_eq_append_getElem h, List.getD_eq_getElem?_getD, List.getElem?_eq_getElem h]
  rfl
theorem getD_mem {α : Type} (l : List α) (k : Nat) (z : α) (h : k < l.length) : l.getD k z ∈ l := by
  rw [List.getD_eq_getElem?_getD, List.getElem?_eq_getElem h]
  exact List.getElem_mem h

end Go.Proofs.Ytbeefbhoccdicaa.PutG
