/- The document decodes as the program does: plain words. -/
import Derived.Test.YtbeefbhoccdicaaRefCheck
import Derived.Test.YtbeefbhoccdicaaRevG
namespace Go.Proofs.Ytbeefbhoccdicaa.RefDec
open Go.RowKit Go.Proofs.YtbeefbhoccdicaaW.PrintWords Go.Proofs.YtbeefbhoccdicaaW.PrintLast Go.Proofs.YtbeefbhoccdicaaW.PrintMore Go.Proofs.Ytbeefbhoccdicaa.QGraphReads Go.Proofs.Ytbeefbhoccdicaa.PlainV Go.Proofs.Ytbeefbhoccdicaa.WireNum Go.Proofs.Ytbeefbhoccdicaa.WireRead Go.Proofs.Ytbeefbhoccdicaa.Writer Go.Proofs.Ytbeefbhoccdicaa.PutG Go.Proofs.Ytbeefbhoccdicaa.FindG Go.Proofs.Ytbeefbhoccdicaa.EdgesG Go.Proofs.Ytbeefbhoccdicaa.AllG Go.Proofs.Ytbeefbhoccdicaa.CheckG Go.Proofs.Ytbeefbhoccdicaa.EncG Go.Proofs.Ytbeefbhoccdicaa.RdSpec Go.Proofs.Ytbeefbhoccdicaa.TakeG Go.Proofs.Ytbeefbhoccdicaa.DecG Go.Proofs.Ytbeefbhoccdicaa.PlainG Go.Proofs.Ytbeefbhoccdicaa.AwakeG Go.Proofs.Ytbeefbhoccdicaa.RefSpec Go.Proofs.Ytbeefbhoccdicaa.RefCheck Go.Proofs.Ytbeefbhoccdicaa.RevG
set_option linter.unusedVariables false

theorem v59_r59 (x : Int × Int × List (Int × Int)) : r59 (v53 x) = v59 x := by
  unfold r59 v53 v59
  simp only [List.map_map]
  rfl
theorem map_v59 (acc : List (Int × Int × List (Int × Int))) : (acc.map v53).map r59 = acc.map v59 := by
  rw [List.map_map]
  exact List.map_congr_left (fun x _ => v59_r59 x)

theorem ref_verts (s : ByteArray) (hs : Sz s) (N : Nat) (hN : N ≤ 256) : ∀ (n i : Nat) (t : St) (acc : List (Int × Int × List (Int × Int))), i + n = N → t.p ≤ s.size → acc.length ≤ i → (∀ v ∈ acc, v.2.2.length ≤ 2048) →
    ∃ r, TakeEnd ((vertsS s n t acc).1.map v53) (vertsS s n t acc).2.e r ∧ ∃ k, cohortref03_Take.l0 k (acc.map v59) (N : Int) (i : Int) s t.p t.e = some (s, ((vertsS s n t acc).2.p : Int), r, (vertsS s n t acc).1.map v59) := by
  intro n
  induction n with
  | zero =>
    intro i t acc hi hp hl ha
    by_cases h0 : t.e = 0
    · obtain ⟨k, r, hk, hr⟩ := ref_check (acc.map v53) (fun v hv => by
        obtain ⟨x, hx, rfl⟩ := List.mem_map.1 hv
        have := ha x hx
        unfold v53
        simp only [List.length_map]
        omega)
      rw [map_v59] at hk
      refine ⟨r, .inl ⟨h0, hr⟩, k + 1, ?_⟩
      rw [cohortref03_Take.l0, if_neg (by omega), if_pos (by omega), hk]
      rfl
    · refine ⟨(t.e : Int), .inr ⟨h0, rfl⟩, 0 + 1, ?_⟩
      rw [cohortref03_Take.l0, if_neg (by omega), if_neg (by omega)]
      rfl
  | succ n ih =>
    intro i t acc hi hp hl ha
    by_cases h0 : t.e = 0
    · have hv : vertsS s (n + 1) t acc = vertsS s n (vertS s t).2 (acc ++ [(vertS s t).1]) := by rw [vertsS, if_pos h0]
      obtain ⟨r, hr, k, hk⟩ := ih (i + 1) (vertS s t).2 (acc ++ [(vertS s t).1]) (by omega) (vertS_p s t hp) (by rw [List.length_append]; simp only [List.length_cons, List.length_nil]; omega) (fun v hv => by
        rcases List.mem_append.1 hv with hv | hv
        · exact ha v hv
        · simp only [List.mem_cons, List.not_mem_nil, or_false] at hv
          subst hv
          exact vertS_len s t)
      rw [hv]
      refine ⟨r, hr, (k + 4201) + 1, ?_⟩
      have hk2 := at_rounds (g := fun k => cohortref03_Take.l0 k ((acc ++ [(vertS s t).1]).map v59) (N : Int) ((i + 1 : Nat) : Int) s (vertS s t).2.p (vertS s t).2.e) (fun k => cohortref03_Take.mono_l k _ _ _ _ _ _) (show k ≤ k + 4201 by omega) hk
      rw [cohortref03_Take.l0, if_pos (by omega), if_pos (by omega), ref_vert (k := k + 4201) (by omega) s t hs hp]
      simp only [Option.bind_some]
      rw [if_pos (by rw [List.length_map]; omega), wrap_succ (by omega)]
      have hm : acc.map v59 ++ [(⟨(vertS s t).1.1, (vertS s t).1.2.1, (vertS s t).1.2.2.map e140⟩ : S59)] = (acc ++ [(vertS s t).1]).map v59 := by rw [List.map_append]; rfl
      rw [hm]
      exact hk2
    · have hv : vertsS s (n + 1) t acc = (acc, t) := by rw [vertsS, if_neg h0]
      rw [hv]
      refine ⟨(t.e : Int), .inr ⟨h0, rfl⟩, 0 + 1, ?_⟩
      rw [cohortref03_Take.l0, if_pos (by omega), if_neg (by omega)]

theorem ref_take (s : ByteArray) (hs : Sz s) : ∃ r, TakeEnd (decL s) (takeS s ⟨0, 0⟩).2.e r ∧ ∃ k, cohortref03_Take.f k s 0 0 = some (s, ((takeS s ⟨0, 0⟩).2.p : Int), r, (takeS s ⟨0, 0⟩).1.map v59) := by
  obtain ⟨r, hr, k, hk⟩ := ref_verts s hs (cntS s 256 ⟨0, 0⟩).1 (cntS_le s 256 ⟨0, 0⟩) (cntS s 256 ⟨0, 0⟩).1 0 (cntS s 256 ⟨0, 0⟩).2 [] (by omega) (cntS_p s 256 ⟨0, 0⟩ (Nat.zero_le _)) (Nat.le_refl _) (fun v hv => by cases hv)
  refine ⟨r, hr, k + 21, ?_⟩
  unfold cohortref03_Take.f
  have hc := ref_cnt (k := k + 21) (by omega) s 256 (by decide) ⟨0, 0⟩ hs (Nat.zero_le _)
  have hc' : cohortref01_Reader_Count.f (k + 21) s 0 0 256 = some (s, ((cntS s 256 ⟨0, 0⟩).2.p : Int), ((cntS s 256 ⟨0, 0⟩).2.e : Int), ((cntS s 256 ⟨0, 0⟩).1 : Int)) := hc
  rw [hc']
  simp only [Option.bind_some]
  exact at_rounds (g := fun k => cohortref03_Take.l0 k (([] : List (Int × Int × List (Int × Int))).map v59) ((cntS s 256 ⟨0, 0⟩).1 : Int) ((0 : Nat) : Int) s (cntS s 256 ⟨0, 0⟩).2.p (cntS s 256 ⟨0, 0⟩).2.e) (fun k => cohortref03_Take.mono_l k _ _ _ _ _ _) (show k ≤ k + 21 by omega) hk

/-- The document's decoding: the same error, the same graph. -/
theorem ref_dec (s : ByteArray) (hs : Sz s) : ∃ x, Decs s x ∧ ∃ k, cohortref03_Decode.f k s = some (if x = 0 then (decL s).map r59 else [], x) := by
  obtain ⟨r, hr, k, hk⟩ := ref_take s hs
  refine ⟨endE s (takeS s ⟨0, 0⟩).2.p r, ⟨r, hr, rfl⟩, k, ?_⟩
  have hp := takeS_p s ⟨0, 0⟩ (Nat.zero_le _)
  have hd : (takeS s ⟨0, 0⟩).1.map v59 = (decL s).map r59 := (map_v59 _).symm
  unfold cohortref03_Decode.f
  rw [hk]
  simp only [Option.bind_some]
  rw [hd]
  have he : cohortref01_Reader_End.f s ((takeS s ⟨0, 0⟩).2.p : Int) r = some (s, ((takeS s ⟨0, 0⟩).2.p : Int), endE s (takeS s ⟨0, 0⟩).2.p r) := by
    unfold cohortref01_Reader_End.f endE
    by_cases h0 : r = 0
    · subst h0
      rw [if_pos rfl]
      by_cases hl : (takeS s ⟨0, 0⟩).2.p < s.size
      · rw [if_pos (by omega), if_pos ⟨hl, rfl⟩]
      · rw [if_neg (by omega), if_neg (fun h => hl h.1)]
    · rw [if_neg h0, if_neg (fun h => h0 h.2)]
  rw [he]
  simp only [Option.bind_some]
  by_cases hx : endE s (takeS s ⟨0, 0⟩).2.p r = 0
  · rw [if_pos hx, if_pos hx, hx]
  · rw [if_neg hx, if_neg hx]
theorem decs_one {s : ByteArray} {x y : Int} (h : Decs s x) (k : Decs s y) : x = y := by
  obtain ⟨r, hr, rfl⟩ := h
  obtain ⟨q, hq, rfl⟩ := k
  have : r = q := by
    rcases hr with ⟨h1, h2⟩ | ⟨h1, h2⟩ <;> rcases hq with ⟨h3, h4⟩ | ⟨h3, h4⟩
    · exact h2.one h4
    · exact absurd h1 h3
    · exact absurd h3 h1
    · rw [h2, h4]
  rw [this]

theorem bytes_l0 (L : List S53) (hL : L.length ≤ 256) (hv : ∀ v ∈ L, VertIn v ∧ v.f2.length ≤ 2048) : ∀ (m i k : Nat) (x : ByteArray), i + m = L.length → m + 3000 < k → x.size + 60000 * m ≤ 1000000000 →
    cohortref03_Bytes.l0 k (L.map r59) x (i : Int) = some (putVerts x (L.drop i)) := by
  intro m
  induction m with
  | zero =>
    intro i k x h1 h2 h3
    obtain ⟨k, rfl⟩ : ∃ q, k = q + 1 := ⟨k - 1, by omega⟩
    rw [cohortref03_Bytes.l0, if_neg (by rw [List.length_map]; omega), List.drop_eq_nil_of_le (by omega)]
    rfl
  | succ m ih =>
    intro i k x h1 h2 h3
    obtain ⟨k, rfl⟩ : ∃ q, k = q + 1 := ⟨k - 1, by omega⟩
    have hlt : i < L.length := by omega
    obtain ⟨hvi, hvl⟩ := hv _ (getD_mem L i z53 hlt)
    have hsz := putVertex_size ⟨#[]⟩ (L.getD i z53)
    have h00 : (⟨#[]⟩ : ByteArray).size = 0 := rfl
    have hvb := vb_f (k := k) (L.getD i z53) hvi (by omega) (by omega)
    have hx : x ++ putVertex ⟨#[]⟩ (L.getD i z53) = putVertex x (L.getD i z53) := bs_inj (by rw [bs_append, bs_vert, bs_vert]; rfl)
    rw [cohortref03_Bytes.l0, if_pos (by rw [List.length_map]; omega), if_pos (by omega), rd59 L i hlt]
    show ((cohortref03_VertexBytes.f k (L.getD i z53).f0 (L.getD i z53).f1 ((L.getD i z53).f2.map r140)).bind fun t262 => _) = _
    rw [hvb]
    simp only [Option.bind_some]
    rw [if_pos (by omega), wrap_succ (by omega), hx, ih (i + 1) k _ (by omega) (by omega) (by rw [← hx, ByteArray.size_append]; omega), drop_getD L i z53 hlt]
    rfl
theorem bytes_f (L : List S53) (hL : L.length ≤ 256) (hv : ∀ v ∈ L, VertIn v ∧ v.f2.length ≤ 2048) {k : Nat} (hk : 4000 < k) : cohortref03_Bytes.f k (L.map r59) = some (graphBytes L) := by
  have h3 := numStr_size L.length
  have hw : IntKind.u64.wrap (((L.map r59).length : Nat) : Int) = (L.length : Int) := by rw [List.length_map, IntKind.wrap_u64]; omega
  unfold cohortref03_Bytes.f
  rw [hw, num_k (by omega) (by omega)]
  simp only [Option.bind_some]
  have h := bytes_l0 L hL hv L.length 0 k (numStr L.length) (by omega) (by omega) (by omega)
  rw [List.drop_zero] at h
  refine h.trans ?_
  have he : (⟨#[]⟩ : ByteArray) ++ numStr L.length = numStr L.length := bs_inj (by rw [bs_append]; rfl)
  rw [graphBytes, he]
end Go.Proofs.Ytbeefbhoccdicaa.RefDec
