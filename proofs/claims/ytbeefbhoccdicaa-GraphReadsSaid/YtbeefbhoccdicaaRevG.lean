/- What was taken without an error is put back as it was: plain words. -/
import Derived.Test.YtbeefbhoccdicaaRefSpec
namespace Go.Proofs.Ytbeefbhoccdicaa.RevG
open Go.RowKit Go.Proofs.YtbeefbhoccdicaaW.PrintWords Go.Proofs.YtbeefbhoccdicaaW.PrintLast Go.Proofs.YtbeefbhoccdicaaW.PrintMore Go.Proofs.Ytbeefbhoccdicaa.QGraphReads Go.Proofs.Ytbeefbhoccdicaa.PlainV Go.Proofs.Ytbeefbhoccdicaa.WireNum Go.Proofs.Ytbeefbhoccdicaa.WireRead Go.Proofs.Ytbeefbhoccdicaa.Writer Go.Proofs.Ytbeefbhoccdicaa.PutG Go.Proofs.Ytbeefbhoccdicaa.FindG Go.Proofs.Ytbeefbhoccdicaa.EdgesG Go.Proofs.Ytbeefbhoccdicaa.AllG Go.Proofs.Ytbeefbhoccdicaa.CheckG Go.Proofs.Ytbeefbhoccdicaa.EncG Go.Proofs.Ytbeefbhoccdicaa.RdSpec Go.Proofs.Ytbeefbhoccdicaa.TakeG Go.Proofs.Ytbeefbhoccdicaa.DecG Go.Proofs.Ytbeefbhoccdicaa.PlainG Go.Proofs.Ytbeefbhoccdicaa.AwakeG Go.Proofs.Ytbeefbhoccdicaa.RefSpec
set_option linter.unusedVariables false

theorem rdv_err0 (f : Nat) : ∀ (b : Bool) (l : List Nat), rdv f b l ≠ .err 0 := by
  induction f with
  | zero => intro b l h; simp [rdv] at h
  | succ f ih =>
    intro b l h
    cases l with
    | nil => simp [rdv] at h
    | cons x t =>
      rw [rdv] at h
      split at h
      · cases h
      · split at h
        · cases h
        · cases hr : rdv f false t with
          | err e =>
            rw [hr] at h
            simp only [more] at h
            injection h with h
            subst h
            exact ih false t hr
          | ok v k =>
            rw [hr] at h
            simp only [more] at h
            cases h

theorem num_rev {s : ByteArray} {t : St} (h : (numS s t).2.e = 0) : t.e = 0 ∧ (bs s).drop t.p = vb 10 (numS s t).1 ++ (bs s).drop (numS s t).2.p := by
  unfold numS at h ⊢
  by_cases h0 : t.e = 0
  · rw [if_pos h0] at h ⊢
    refine ⟨h0, ?_⟩
    cases hr : rdv 10 true ((bs s).drop t.p) with
    | err e =>
      rw [hr] at h
      simp only at h
      subst h
      exfalso
      exact rdv_err0 10 true _ hr
    | ok v l =>
      simp only
      obtain ⟨h1, h2, _, _⟩ := vb_rdv 9 _ _ _ _ (drop_byte s t.p) hr
      rw [← h1, ← List.drop_drop]
      exact (List.take_append_drop l _).symm
  · rw [if_neg h0] at h
    exact absurd h h0
theorem sgn_rev {s : ByteArray} {t : St} (h : (sgnS s t).2.e = 0) : t.e = 0 ∧ (bs s).drop t.p = lS (sgnS s t).1 ++ (bs s).drop (sgnS s t).2.p := by
  have h1 := num_rev (s := s) (t := t) h
  refine ⟨h1.1, ?_⟩
  have h2 : (foldZ (sgnS s t).1).toNat = (numS s t).1 := by
    unfold sgnS
    rw [fold_unfold (numS_un s t), Int.toNat_natCast]
  unfold lS
  rw [h2]
  exact h1.2
theorem cnt_rev {s : ByteArray} {m : Nat} {t : St} (h : (cntS s m t).2.e = 0) : t.e = 0 ∧ (bs s).drop t.p = vb 10 (cntS s m t).1 ++ (bs s).drop (cntS s m t).2.p := by
  unfold cntS at h ⊢
  by_cases h0 : (numS s t).2.e = 0
  · rw [if_pos h0] at h ⊢
    by_cases h1 : (numS s t).1 > m
    · rw [if_pos h1] at h
      cases h
    · rw [if_neg h1]
      exact num_rev h0
  · rw [if_neg h0] at h
    exact absurd h h0

theorem edges_rev (s : ByteArray) : ∀ (n : Nat) (t : St) (acc : List (Int × Int)), (edgesS s n t acc).2.e = 0 →
    t.e = 0 ∧ ∃ es : List (Int × Int), (edgesS s n t acc).1 = acc ++ es ∧ es.length = n ∧ (∀ e ∈ es, EdgeIn (e67 e)) ∧ (bs s).drop t.p = lE (es.map e67) ++ (bs s).drop (edgesS s n t acc).2.p := by
  intro n
  induction n with
  | zero => intro t acc h; exact ⟨h, [], (List.append_nil _).symm, rfl, (fun e he => (by cases he)), (by simp [lE, edgesS])⟩
  | succ n ih =>
    intro t acc h
    rw [edgesS] at h ⊢
    by_cases h0 : t.e = 0
    · rw [if_pos h0] at h ⊢
      obtain ⟨h1, es, h2, h3, h4, h5⟩ := ih _ _ h
      obtain ⟨h6, h7⟩ := sgn_rev h1
      obtain ⟨h8, h9⟩ := sgn_rev h6
      refine ⟨h0, ((sgnS s t).1, (sgnS s (sgnS s t).2).1) :: es, by rw [h2]; simp, by simp [h3], ?_, ?_⟩
      · intro e he
        rcases List.mem_cons.1 he with rfl | he
        · exact ⟨sgnS_in s t, sgnS_in s _⟩
        · exact h4 e he
      · rw [h9, h7, h5]
        simp [lE, e67]
    · rw [if_neg h0] at h
      exact absurd h h0

theorem vert_rev (s : ByteArray) (t : St) (h : (vertS s t).2.e = 0) : t.e = 0 ∧ VertIn (v53 (vertS s t).1) ∧ (bs s).drop t.p = lV (v53 (vertS s t).1) ++ (bs s).drop (vertS s t).2.p := by
  unfold vertS at h ⊢
  simp only at h ⊢
  obtain ⟨h1, es, h2, h3, h4, h5⟩ := edges_rev s _ _ _ h
  obtain ⟨h6, h7⟩ := cnt_rev h1
  obtain ⟨h8, h9⟩ := sgn_rev h6
  obtain ⟨h10, h11⟩ := sgn_rev h8
  rw [List.nil_append] at h2
  refine ⟨h10, ⟨sgnS_in s t, sgnS_in s _, ?_⟩, ?_⟩
  · intro e he
    unfold v53 at he
    simp only [h2] at he
    obtain ⟨x, hx, rfl⟩ := List.mem_map.1 he
    exact h4 x hx
  · rw [h11, h9, h7, h5]
    unfold v53 lV
    simp only [h2, List.length_map, h3, List.append_assoc]

theorem verts_rev (s : ByteArray) : ∀ (n : Nat) (t : St) (acc : List (Int × Int × List (Int × Int))), (vertsS s n t acc).2.e = 0 →
    t.e = 0 ∧ ∃ vs : List (Int × Int × List (Int × Int)), (vertsS s n t acc).1 = acc ++ vs ∧ vs.length = n ∧ (∀ v ∈ vs, VertIn (v53 v)) ∧ (bs s).drop t.p = (vs.map v53).flatMap lV ++ (bs s).drop (vertsS s n t acc).2.p := by
  intro n
  induction n with
  | zero => intro t acc h; exact ⟨h, [], (List.append_nil _).symm, rfl, (fun e he => (by cases he)), (by simp [vertsS])⟩
  | succ n ih =>
    intro t acc h
    rw [vertsS] at h ⊢
    by_cases h0 : t.e = 0
    · rw [if_pos h0] at h ⊢
      obtain ⟨h1, vs, h2, h3, h4, h5⟩ := ih _ _ h
      obtain ⟨h6, h7, h8⟩ := vert_rev s t h1
      refine ⟨h0, (vertS s t).1 :: vs, by rw [h2]; simp, by simp [h3], ?_, ?_⟩
      · intro v hv
        rcases List.mem_cons.1 hv with rfl | hv
        · exact h7
        · exact h4 v hv
      · rw [h8, h5]
        simp
    · rw [if_neg h0] at h
      exact absurd h h0

theorem take_rev (s : ByteArray) (t : St) (h : (takeS s t).2.e = 0) : t.e = 0 ∧ (∀ v ∈ (takeS s t).1.map v53, VertIn v) ∧ (bs s).drop t.p = lG ((takeS s t).1.map v53) ++ (bs s).drop (takeS s t).2.p := by
  unfold takeS at h ⊢
  obtain ⟨h1, vs, h2, h3, h4, h5⟩ := verts_rev s _ _ _ h
  obtain ⟨h6, h7⟩ := cnt_rev h1
  rw [List.nil_append] at h2
  refine ⟨h6, ?_, ?_⟩
  · intro v hv
    rw [h2] at hv
    obtain ⟨x, hx, rfl⟩ := List.mem_map.1 hv
    exact h4 x hx
  · rw [h7, h5, h2]
    unfold lG
    rw [List.length_map, h3, List.append_assoc]

/-- Bytes that are decoded without an error are the graph's bytes. -/
theorem dec_rev (s : ByteArray) (h : Decs s 0) : s = graphBytes (decL s) ∧ Checks (decL s) 0 ∧ (∀ v ∈ decL s, VertIn v) := by
  obtain ⟨r, hr, hx⟩ := h
  unfold endE at hx
  split at hx
  · cases hx
  · rename_i hn
    subst hx
    rcases hr with ⟨he, hc⟩ | ⟨he, h0⟩
    · obtain ⟨_, hv, hb⟩ := take_rev s ⟨0, 0⟩ he
      refine ⟨bs_inj ?_, hc, hv⟩
      rw [bs_graph]
      rw [List.drop_zero] at hb
      rw [hb, List.drop_eq_nil_of_le (by rw [bs_length]; omega), List.append_nil]
      rfl
    · exfalso
      omega
end Go.Proofs.Ytbeefbhoccdicaa.RevG
