/- The document's bytes of a graph are the program's: plain words. -/
import Derived.Test.YtbeefbhoccdicaaRefCheck
namespace Go.Proofs.Ytbeefbhoccdicaa.RefDec
open Go.RowKit Go.Proofs.YtbeefbhoccdicaaW.PrintWords Go.Proofs.YtbeefbhoccdicaaW.PrintLast Go.Proofs.YtbeefbhoccdicaaW.PrintMore Go.Proofs.Ytbeefbhoccdicaa.QGraphReads Go.Proofs.Ytbeefbhoccdicaa.PlainV Go.Proofs.Ytbeefbhoccdicaa.WireNum Go.Proofs.Ytbeefbhoccdicaa.WireRead Go.Proofs.Ytbeefbhoccdicaa.Writer Go.Proofs.Ytbeefbhoccdicaa.PutG Go.Proofs.Ytbeefbhoccdicaa.FindG Go.Proofs.Ytbeefbhoccdicaa.EdgesG Go.Proofs.Ytbeefbhoccdicaa.AllG Go.Proofs.Ytbeefbhoccdicaa.CheckG Go.Proofs.Ytbeefbhoccdicaa.EncG Go.Proofs.Ytbeefbhoccdicaa.RdSpec Go.Proofs.Ytbeefbhoccdicaa.TakeG Go.Proofs.Ytbeefbhoccdicaa.DecG Go.Proofs.Ytbeefbhoccdicaa.PlainG Go.Proofs.Ytbeefbhoccdicaa.AwakeG Go.Proofs.Ytbeefbhoccdicaa.RefSpec Go.Proofs.Ytbeefbhoccdicaa.RefCheck
set_option linter.unusedVariables false

theorem bytes_l0 (L : List S53) (hL : L.length ≤ 256) (hv : ∀ v ∈ L, VertIn v ∧ v.f2.length ≤ 2048) : ∀ (m i k : Nat) (x : ByteArray), i + m = L.length → m + 3000 < k → x.size + 60000 * m ≤ 1000000000 →
    cohortref03_Bytes.l0 k (L.map r59) x (i : Int) = some (putVerts x (L.drop i)) := by
  intro m
  induction m with
  | zero =>
    intro i k x h1 h2 h3
    obtain ⟨k, rfl⟩ : ∃ q, k = q + 1 := ⟨k - 1, by omega⟩
    rw [cohortref03_Bytes.l0, if_neg (by rw [List.length_map]; omega), List.drop_eq_nil_of_le (by omega)]
    rfl
  | succ m ih =>
    intro i k x h1 h2 h3
    obtain ⟨k, rfl⟩ : ∃ q, k = q + 1 := ⟨k - 1, by omega⟩
    have hlt : i < L.length := by omega
    obtain ⟨hvi, hvl⟩ := hv _ (getD_mem L i z53 hlt)
    have hsz := putVertex_size ⟨#[]⟩ (L.getD i z53)
    have h00 : (⟨#[]⟩ : ByteArray).size = 0 := rfl
    have hvb := vb_f (k := k) (L.getD i z53) hvi (by omega) (by omega)
    have hx : x ++ putVertex ⟨#[]⟩ (L.getD i z53) = putVertex x (L.getD i z53) := bs_inj (by rw [bs_append, bs_vert, bs_vert]; rfl)
    rw [cohortref03_Bytes.l0, if_pos (by rw [List.length_map]; omega), if_pos (by omega), rd59 L i hlt]
    show ((cohortref03_VertexBytes.f k (L.getD i z53).f0 (L.getD i z53).f1 ((L.getD i z53).f2.map r140)).bind fun t262 => _) = _
    rw [hvb]
    simp only [Option.bind_some]
    rw [if_pos (by omega), wrap_succ (by omega), hx, ih (i + 1) k _ (by omega) (by omega) (by rw [← hx, ByteArray.size_append]; omega), drop_getD L i z53 hlt]
    rfl
theorem bytes_f (L : List S53) (hL : L.length ≤ 256) (hv : ∀ v ∈ L, VertIn v ∧ v.f2.length ≤ 2048) {k : Nat} (hk : 4000 < k) : cohortref03_Bytes.f k (L.map r59) = some (graphBytes L) := by
  have h3 := numStr_size L.length
  have hw : IntKind.u64.wrap (((L.map r59).length : Nat) : Int) = (L.length : Int) := by rw [List.length_map, IntKind.wrap_u64]; omega
  unfold cohortref03_Bytes.f
  rw [hw, num_k (by omega) (by omega)]
  simp only [Option.bind_some]
  have h := bytes_l0 L hL hv L.length 0 k (numStr L.length) (by omega) (by omega) (by omega)
  rw [List.drop_zero] at h
  refine h.trans ?_
  have he : (⟨#[]⟩ : ByteArray) ++ numStr L.length = numStr L.length := bs_inj (by rw [bs_append]; rfl)
  rw [graphBytes, he]
end Go.Proofs.Ytbeefbhoccdicaa.RefDec
