/- KernChecks: the law's own code: all cases. -/
import Derived.Test.YtbeefbhoccdicaaKLT
import Derived.Test.YtbeefbhoccdicaaKLF
namespace Go.Proofs.Ytbeefbhoccdicaa.KLaw
open Go.RowKit Go.Shelf Go.Proofs.YtbeefbhoccdicaaW.PrintWords Go.Proofs.YtbeefbhoccdicaaW.PrintLast Go.Proofs.YtbeefbhoccdicaaW.PrintMore Go.Proofs.Ytbeefbhoccdicaa.QGraphReads Go.Proofs.Ytbeefbhoccdicaa.WireNum Go.Proofs.Ytbeefbhoccdicaa.PutG Go.Proofs.Ytbeefbhoccdicaa.FindG Go.Proofs.Ytbeefbhoccdicaa.AllG Go.Proofs.Ytbeefbhoccdicaa.CheckG Go.Proofs.Ytbeefbhoccdicaa.RefSpec Go.Proofs.Ytbeefbhoccdicaa.RefCheck Go.Proofs.Ytbeefbhoccdicaa.KCheckA
set_option linter.unusedVariables false
set_option linter.unusedSimpArgs false

theorem grows_of {L : List S53} (h : Checks L 0) : L.length ≤ 256 ∧ Grows L := by
  unfold Checks at h
  rcases h with ⟨_, h⟩ | ⟨_, _, h⟩ | ⟨_, _, _, h⟩ | ⟨_, _, _, _, h⟩ | ⟨h1, h2, _⟩
  · cases h
  · cases h
  · cases h
  · cases h
  · exact ⟨h1, h2⟩

set_option maxHeartbeats 4000000 in
set_option maxRecDepth 100000 in
theorem law_bad (w : World) (s : ByteArray) (L : List S53) (A : Option Addr) (c : Nat) (v2 : Value) (hc : L.length ≤ c) (hr : Kd.C k53 w A L.length L) (hl : L.length * 40 ≤ 140737488351232) (hE : ∀ v ∈ L, v.f2.length ≤ 8796093022208) (kc : Nat) (r : Int) (hkc : cohortref03_Check.f kc (L.map r59) = some r) (h0 : r ≠ 0) :
    Calls Try.prog 10 #[.string s, .agg #[.slice A L.length c], v2] w fun e w' => e = .returned (.bool true) ∧ Below w.heap.size w w' := by
  obtain ⟨kr0, hkr⟩ := ref_ref L (by omega) hE
  obtain ⟨M, hM⟩ : ∃ M, L.map r59 = M := ⟨_, rfl⟩
  rw [hM] at hkr hkc
  have h1 : (r != 0) = true := bne_iff_ne.2 h0
  have HKR := Aside0.mk hkr
  have HKC := Aside0.mk hkc
  have HB1 := Aside0.mk (below_alloc (Below.refl w.heap.size w) (.cells #[.slice A L.length c] 24))
  have HR1 := Aside0.mk (Kd.C_alloc hr (.cells #[.slice A L.length c] 24))
  clear hr hkr hkc h0 hM
  go_enter Try.func10, Try.ntmps10
  go_wp2_with fail
  generalize w.alloc (.cells #[.slice A L.length c] 24) = w1 at HB1 HR1 ⊢
  refine (cohortlaw03_Ref.calls kr0 A c L M w1 HR1.out hc HKR.out).mono ?_
  rintro e w2 ⟨u2, rfl, hS2, hb2⟩
  obtain ⟨A2, c2, hA2, hl2, hC2⟩ := Kd.S_reads hS2
  subst hA2
  have HB2 := Aside0.mk (below_then HB1.out HB1.out.size hb2)
  clear hS2 hb2 HB1 HR1
  go_wp2_with fail
  refine (cohortref03_Check.calls kc A2 c2 M r w2 hC2 hl2 HKC.out).mono ?_
  rintro e w3 ⟨rfl, hd⟩
  have HB3 := Aside0.mk (below_then HB2.out HB2.out.size hd.below)
  clear hd hC2 HB2
  go_wp2_with fail
  refine (AwakeK.awake_calls w3).mono ?_
  rintro e w4 ⟨rfl, hb4⟩
  have HB4 := Aside0.mk (below_then HB3.out HB3.out.size hb4)
  clear hb4 HB3
  go_wp2_with fail
  go_ret
  exact ⟨by first | rfl | simp, HB4.out⟩

theorem law_calls (w : World) (s : ByteArray) (L : List S53) (A : Option Addr) (c : Nat) (p : List Int) (B : Option Addr) (cb : Nat) (hc : L.length ≤ c) (hr : Kd.C k53 w A L.length L) (hp : Kd.C (Kd.int .i64) w B p.length p) (hcb : p.length ≤ cb) (hl : L.length * 40 ≤ 140737488351232) (hE : ∀ v ∈ L, v.f2.length ≤ 8796093022208) :
    Calls Try.prog 10 #[.string s, .agg #[.slice A L.length c], .slice B p.length cb] w fun e w' => e = .returned (.bool true) ∧ Below w.heap.size w w' := by
  obtain ⟨kc, r, hkc, hck⟩ := ref_check L (fun v hv => by have := hE v hv; omega)
  by_cases h0 : r = 0
  · subst h0
    obtain ⟨h1, hg⟩ := grows_of hck
    rcases Nat.decEq p.length 1 with hlen | hlen
    · cases hown : ownB s
      · exact KLF.law_a_false w s L A c p B cb hc hr hp hcb hE hck h1 hg hlen hown
      · exact KLT.law_a_true w s L A c p B cb hc hr hp hcb hE hck h1 hg hlen hown
    · by_cases hp0 : rd p 0 < 0
      · cases hown : ownB s
        · exact KLF.law_b_false w s L A c p B cb hc hr hp hcb hE hck h1 hg hlen hp0 hown
        · exact KLT.law_b_true w s L A c p B cb hc hr hp hcb hE hck h1 hg hlen hp0 hown
      · cases hown : ownB s
        · exact KLF.law_c_false w s L A c p B cb hc hr hp hcb hE hck h1 hg hlen hp0 hown
        · exact KLT.law_c_true w s L A c p B cb hc hr hp hcb hE hck h1 hg hlen hp0 hown
  · exact law_bad w s L A c _ hc hr hl hE kc r hkc h0
end Go.Proofs.Ytbeefbhoccdicaa.KLaw
