/- GraphReads: the law's own code, walked. -/
import Derived.Test.YtbeefbhoccdicaaRefDec
namespace Go.Proofs.Ytbeefbhoccdicaa.ReadLaw
open Go.RowKit Go.Shelf Go.Proofs.YtbeefbhoccdicaaW.PrintWords Go.Proofs.YtbeefbhoccdicaaW.PrintLast Go.Proofs.YtbeefbhoccdicaaW.PrintMore Go.Proofs.Ytbeefbhoccdicaa.QGraphReads Go.Proofs.Ytbeefbhoccdicaa.PlainV Go.Proofs.Ytbeefbhoccdicaa.WireNum Go.Proofs.Ytbeefbhoccdicaa.WireRead Go.Proofs.Ytbeefbhoccdicaa.Writer Go.Proofs.Ytbeefbhoccdicaa.PutG Go.Proofs.Ytbeefbhoccdicaa.FindG Go.Proofs.Ytbeefbhoccdicaa.EdgesG Go.Proofs.Ytbeefbhoccdicaa.AllG Go.Proofs.Ytbeefbhoccdicaa.CheckG Go.Proofs.Ytbeefbhoccdicaa.EncG Go.Proofs.Ytbeefbhoccdicaa.SameG Go.Proofs.Ytbeefbhoccdicaa.RdSpec Go.Proofs.Ytbeefbhoccdicaa.TakeG Go.Proofs.Ytbeefbhoccdicaa.DecG Go.Proofs.Ytbeefbhoccdicaa.PlainG Go.Proofs.Ytbeefbhoccdicaa.AwakeG Go.Proofs.Ytbeefbhoccdicaa.RefSpec Go.Proofs.Ytbeefbhoccdicaa.RefCheck Go.Proofs.Ytbeefbhoccdicaa.RevG Go.Proofs.Ytbeefbhoccdicaa.RefDec
set_option linter.unusedVariables false

theorem decL_len (s : ByteArray) : ∀ v ∈ decL s, v.f2.length ≤ 2048 := by
  have h : ∀ (n : Nat) (t : St) (acc : List (Int × Int × List (Int × Int))), (∀ v ∈ acc, v.2.2.length ≤ 2048) → ∀ v ∈ (vertsS s n t acc).1, v.2.2.length ≤ 2048 := by
    intro n
    induction n with
    | zero => intro t acc h v hv; exact h v hv
    | succ n ih =>
      intro t acc h v hv
      rw [vertsS] at hv
      split at hv
      · refine ih _ _ (fun u hu => ?_) v hv
        rcases List.mem_append.1 hu with hu | hu
        · exact h u hu
        · simp only [List.mem_cons, List.not_mem_nil, or_false] at hu
          subst hu
          exact vertS_len s t
      · exact h v hv
  intro v hv
  obtain ⟨x, hx, rfl⟩ := List.mem_map.1 hv
  have := h _ _ [] (fun u hu => by cases hu) x hx
  unfold v53
  simp only [List.length_map]
  exact this

set_option maxHeartbeats 8000000 in
set_option maxRecDepth 100000 in
theorem law_calls (w : World) (s : ByteArray) (hm : s.size ≤ 140737488351232) :
    Calls Try.prog 4 #[.string s] w fun e w' => e = .returned (.bool true) ∧ Below w.heap.size w w' := by
  have hsz : Sz s := by unfold Sz; omega
  obtain ⟨x, hx, k, hk⟩ := ref_dec s hsz
  have hlen := decL_len s
  have hrev := dec_rev s
  go_enter Try.func4, Try.ntmps4
  go_wp2_with fail
  refine (decode_calls w s hsz).mono ?_
  rintro e w1 ⟨⟨v, y, rfl, hy, hS⟩, hb1⟩
  obtain rfl := decs_one hy hx
  obtain ⟨L, hL⟩ : ∃ L, (if y = 0 then decL s else []) = L := ⟨_, rfl⟩
  rw [hL] at hS
  obtain ⟨A, c, hA, hcl, hC⟩ := Kd.S_reads hS
  subst hA
  have HC1 := Aside0.mk hC
  have HCL := Aside0.mk hcl
  have HB1 := Aside0.mk hb1
  have HK := Aside0.mk hk
  have HL := Aside0.mk hL
  have HX := Aside0.mk hx
  have HREV := Aside0.mk hrev
  have HLEN := Aside0.mk hlen
  clear hS hC hcl hb1 hk hL hx hy hrev hlen
  go_wp2_with fail
  have HX2 := Aside0.mk (blk_new w1 (.cells #[.slice A L.length c] 24))
  have HB2 := Aside0.mk (below_alloc HB1.out (.cells #[.slice A L.length c] 24))
  have HC2 := Aside0.mk (Kd.C_alloc HC1.out (.cells #[.slice A L.length c] 24))
  generalize w1.alloc (.cells #[.slice A L.length c] 24) = w2 at HX2 HB2 HC2 ⊢
  refine (cohortref03_Decode.calls k s _ y w2 HK.out).mono ?_
  rintro e w3 ⟨u, rfl, hS3, hb3⟩
  obtain ⟨A3, c3, hA3, hcl3, hC3⟩ := Kd.S_reads hS3
  subst hA3
  have HX3 := Aside0.mk (blk_below HX2.out hb3)
  have HB3 := Aside0.mk (below_then HB2.out HB2.out.size hb3)
  have HC3 := Aside0.mk (Kd.C_below HC2.out hb3)
  obtain ⟨M, hM⟩ : ∃ M, (if y = 0 then (decL s).map r59 else []) = M := ⟨_, rfl⟩
  rw [hM] at hC3 hcl3 ⊢
  have HM := Aside0.mk hM
  have HD3 := Aside0.mk hC3
  have HE3 := Aside0.mk hcl3
  clear hS3 hb3 hM hC3 hcl3
  go_wp2_with fail
  refine (awake_calls w3).mono ?_
  rintro e w4 ⟨rfl, hb4⟩
  have HX4 := Aside0.mk (blk_below HX3.out hb4)
  have HB4 := Aside0.mk (below_then HB3.out HB3.out.size hb4)
  have HC4 := Aside0.mk (Kd.C_below HC3.out hb4)
  have HD4 := Aside0.mk (Kd.C_below HD3.out hb4)
  have hc4 : w4.cell? ⟨w1.heap.size, 0, none⟩ = some (.slice A L.length c) := (blk_cell HX4.out 0).trans rfl
  clear hb4
  by_cases h0 : y = 0
  · subst h0
    obtain ⟨h1, h2, h3⟩ := HREV.out HX.out
    have hLd : L = decL s := by rw [← HL.out, if_pos rfl]
    have hMd : M = L.map r59 := by rw [← HM.out, if_pos rfl, hLd]
    have hl := HLEN.out
    rw [← hLd] at h1 h2 h3 hl
    have hn : L.length ≤ 256 := by
      unfold Checks at h2
      rcases h2 with ⟨_, h⟩ | ⟨h, _⟩ | ⟨h, _⟩ | ⟨h, _⟩ | ⟨h, _⟩
      · cases h
      · exact h
      · exact h
      · exact h
      · exact h
    have HBY := Aside0.mk (bytes_f L hn (fun v hv => ⟨h3 v hv, hl v hv⟩) (k := 4001) (by omega))
    obtain ⟨k1, hk1⟩ := ref_ref L (by omega) (fun v hv => by have := hl v hv; omega)
    have HK1 := Aside0.mk hk1
    have H1 := Aside0.mk h1
    have HMD := Aside0.mk hMd
    clear h1 h2 h3 hl hn hk1 hLd hMd
    go_wp2_with fail
    refine (cohortlaw03_Ref.calls k1 A c L _ w4 HC4.out HCL.out HK1.out).mono ?_
    rintro e w5 ⟨u5, rfl, hS5, hb5⟩
    rw [← HMD.out] at hS5
    obtain ⟨A5, c5, hA5, hcl5, hC5⟩ := Kd.S_reads hS5
    subst hA5
    have HD5 := Aside0.mk (Kd.C_below HD4.out hb5)
    have HB5 := Aside0.mk (below_then HB4.out HB4.out.size hb5)
    have HBM : Aside0 (cohortref03_Bytes.f 4001 M = some (graphBytes L)) := ⟨by rw [HMD.out]; exact HBY.out⟩
    rw [← H1.out] at HBM
    clear hS5 hb5 hc4
    go_wp2_with fail
    refine (cohortref03_Bytes.calls 4001 A5 c5 M s w5 hC5 hcl5 HBM.out).mono ?_
    rintro e w6 ⟨rfl, hb6⟩
    have HD6 := Aside0.mk (Kd.C_below HD5.out hb6)
    have HB6 := Aside0.mk (below_then HB5.out HB5.out.size hb6)
    clear hb6 hC5 hcl5
    go_wp2_with fail
    refine (cohortref03_Bytes.calls 4001 A3 c3 M s w6 HD6.out HE3.out HBM.out).mono ?_
    rintro e w7 ⟨rfl, hb7⟩
    have HD7 := Aside0.mk (Kd.C_below HD6.out hb7)
    have HB7 := Aside0.mk (below_then HB6.out HB6.out.size hb7)
    clear hb7
    go_wp2_with fail
    refine (cohortref03_Bytes.calls 4001 A3 c3 M s w7 HD7.out HE3.out HBM.out).mono ?_
    rintro e w8 ⟨rfl, hb8⟩
    have HB8 := Aside0.mk (below_then HB7.out HB7.out.size hb8)
    clear hb8
    go_wp2_with fail
    go_ret
    exact ⟨by first | rfl | simp, HB8.out⟩
  · have hLn : L = [] := by rw [← HL.out, if_neg h0]
    subst hLn
    have h0b : (y != 0) = true := bne_iff_ne.2 h0
    have H0 := Aside0.mk h0
    clear h0
    go_wp2_with fail
    go_ret
    exact ⟨by first | rfl | simp, HB4.out⟩
end Go.Proofs.Ytbeefbhoccdicaa.ReadLaw
