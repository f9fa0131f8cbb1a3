/- Which parameters a program allows: all of it, in one word. -/
import Derived.Test.YtbeefbhoccdicaaRefK
namespace Go.Proofs.Ytbeefbhoccdicaa.KCheckA
open Go.RowKit Go.Shelf Go.Proofs.YtbeefbhoccdicaaW.PrintWords Go.Proofs.YtbeefbhoccdicaaW.PrintLast Go.Proofs.YtbeefbhoccdicaaW.PrintMore Go.Proofs.Ytbeefbhoccdicaa.QGraphReads Go.Proofs.Ytbeefbhoccdicaa.WireNum Go.Proofs.Ytbeefbhoccdicaa.PutG Go.Proofs.Ytbeefbhoccdicaa.FindG Go.Proofs.Ytbeefbhoccdicaa.AllG Go.Proofs.Ytbeefbhoccdicaa.CheckG Go.Proofs.Ytbeefbhoccdicaa.SourceK Go.Proofs.Ytbeefbhoccdicaa.KCheck Go.Proofs.Ytbeefbhoccdicaa.KCheckS Go.Proofs.Ytbeefbhoccdicaa.RefK
set_option linter.unusedVariables false

theorem sssp_calls (w : World) (s : ByteArray) (L : List S53) (A : Option Addr) (c : Nat) (p : List Int) (B : Option Addr) (cb : Nat) (hr : Kd.C k53 w A L.length L) (hp : Kd.C (Kd.int .i64) w B p.length p) (hg : Grows L) (hn : L.length ≤ 256) (g_bfs : (s.toList == ([98, 102, 115] : List UInt8)) = false) (g_sssp : (s.toList == ([115, 115, 115, 112] : List UInt8)) = true) :
    Calls Try.prog 52 #[.string s, .agg #[.slice A L.length c], .slice B p.length cb] w fun e w' => (∃ r, e = .returned (.int .i64 r) ∧ ((KCheckS.Neg (allOf L) ∧ r = 71) ∨ (¬ KCheckS.Neg (allOf L) ∧ r = srcR L p))) ∧ Below w.heap.size w w' :=
  (callsIn_wide (n := 3)).1 (sssp_in Fence.wide 3 trivial trivial trivial trivial rfl (by omega) w s L A c p B cb hr (srcR L p) (fun W hb => callsIn_wide.2 (source_calls W L A c p B cb (Kd.C_below hr hb) (Kd.C_below hp hb) hg hn)) g_bfs g_sssp)
theorem kcheck_calls (w : World) (s : ByteArray) (L : List S53) (A : Option Addr) (c : Nat) (p : List Int) (B : Option Addr) (cb : Nat) (hr : Kd.C k53 w A L.length L) (hp : Kd.C (Kd.int .i64) w B p.length p) (hcb : p.length ≤ cb) (hg : Grows L) (hn : L.length ≤ 256) :
    Calls Try.prog 52 #[.string s, .agg #[.slice A L.length c], .slice B p.length cb] w fun e w' => e = .returned (.int .i64 (kr s L p)) ∧ Below w.heap.size w w' := by
  unfold kr
  by_cases h1 : s.toList = ([98, 102, 115] : List UInt8)
  · rw [if_pos h1]
    exact bfs_calls w s L A c p B cb hr hp hcb hg hn h1
  · rw [if_neg h1]
    by_cases h2 : s.toList = ([115, 115, 115, 112] : List UInt8)
    · rw [if_pos h2]
      refine (sssp_calls w s L A c p B cb hr hp hg hn (beq_eq_false_iff_ne.mpr h1) (beq_iff_eq.mpr h2)).mono ?_
      rintro e w' ⟨⟨r, rfl, h⟩, hb⟩
      refine ⟨?_, hb⟩
      rcases h with ⟨h, rfl⟩ | ⟨h, rfl⟩
      · rw [if_pos ((neg_iff _).1 h)]
      · rw [if_neg (fun e => h ((neg_iff _).2 e))]
    · rw [if_neg h2]
      by_cases h3 : s.toList = ([112, 97, 103, 101, 114, 97, 110, 107] : List UInt8)
      · rw [if_pos h3]
        exact pagerank_calls w s L A c p B cb hr hp hcb hg hn h1 h2 h3
      · rw [if_neg h3]
        by_cases h4 : s.toList = ([100, 101, 103, 114, 101, 101] : List UInt8)
        · rw [if_pos h4]
          exact degree_calls w s L A c p B cb hr hp hcb hg hn h1 h2 h3 h4
        · rw [if_neg h4]
          by_cases h5 : s.toList = ([99, 99] : List UInt8)
          · rw [if_pos h5]
            exact cc_calls w s L A c p B cb hr hp hcb hg hn h1 h2 h3 h4 h5
          · rw [if_neg h5]
            exact other_calls w s L A c p B cb hr hp hcb hg hn h1 h2 h3 h4 h5

/-- Whose name is one of the five. -/
def ownB (s : ByteArray) : Bool := s.toList == ([98, 102, 115] : List UInt8) || (s.toList == ([115, 115, 115, 112] : List UInt8) || (s.toList == ([100, 101, 103, 114, 101, 101] : List UInt8) || (s.toList == ([112, 97, 103, 101, 114, 97, 110, 107] : List UInt8) || s.toList == ([99, 99] : List UInt8))))
theorem own_iff (s : ByteArray) : ownB s = true ↔ RefK.Own s := by
  unfold ownB RefK.Own
  simp only [Bool.or_eq_true, beq_iff_eq]
theorem known_own (s : ByteArray) : kern_Known.f s = some (ownB s) := by
  unfold kern_Known.f ownB
  by_cases h1 : s.toList = ([98, 102, 115] : List UInt8)
  · rw [if_pos h1, beq_iff_eq.mpr h1, Bool.true_or]
  · rw [if_neg h1, beq_eq_false_iff_ne.mpr h1, Bool.false_or]
    by_cases h2 : s.toList = ([115, 115, 115, 112] : List UInt8)
    · rw [if_pos h2, beq_iff_eq.mpr h2, Bool.true_or]
    · rw [if_neg h2, beq_eq_false_iff_ne.mpr h2, Bool.false_or]
      by_cases h3 : s.toList = ([100, 101, 103, 114, 101, 101] : List UInt8)
      · rw [if_pos h3, beq_iff_eq.mpr h3, Bool.true_or]
      · rw [if_neg h3, beq_eq_false_iff_ne.mpr h3, Bool.false_or]
        by_cases h4 : s.toList = ([112, 97, 103, 101, 114, 97, 110, 107] : List UInt8)
        · rw [if_pos h4, beq_iff_eq.mpr h4, Bool.true_or]
        · rw [if_neg h4, beq_eq_false_iff_ne.mpr h4, Bool.false_or]
          by_cases h5 : s.toList = ([99, 99] : List UInt8)
          · rw [if_pos h5, beq_iff_eq.mpr h5]
          · rw [if_neg h5, beq_eq_false_iff_ne.mpr h5]
theorem comb_same (s : ByteArray) : ∃ r, kern_Combiner.f 2 s = some r ∧ cohortref07_Combiner.f 2 s = some r := by
  have h : cohortref07_Combiner.f 2 s = kern_Combiner.f 2 s := by
    unfold cohortref07_Combiner.f kern_Combiner.f
    simp only [cohortref07_Combiner.j0, kern_Combiner.j0]
  rw [h]
  unfold kern_Combiner.f
  simp only [kern_Combiner.j0]
  repeat' split
  all_goals exact ⟨_, rfl, rfl⟩
end Go.Proofs.Ytbeefbhoccdicaa.KCheckA
