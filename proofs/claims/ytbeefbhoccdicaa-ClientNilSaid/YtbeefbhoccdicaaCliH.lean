/- A client takes a packet that tells it something: walked. -/
import Derived.Test.YtbeefbhoccdicaaCliT
import Derived.Test.YtbeefbhoccdicaaEncS
namespace Go.Proofs.Ytbeefbhoccdicaa.CliH
open Go.RowKit Go.Proofs.YtbeefbhoccdicaaW.PrintWords Go.Proofs.YtbeefbhoccdicaaW.PrintLast Go.Proofs.YtbeefbhoccdicaaW.PrintMore Go.Proofs.Ytbeefbhoccdicaa.QGraphReads Go.Proofs.Ytbeefbhoccdicaa.PlainV Go.Proofs.Ytbeefbhoccdicaa.WireNum Go.Proofs.Ytbeefbhoccdicaa.WireRead Go.Proofs.Ytbeefbhoccdicaa.RdSpec Go.Proofs.Ytbeefbhoccdicaa.RdC Go.Proofs.Ytbeefbhoccdicaa.CloneC Go.Proofs.Ytbeefbhoccdicaa.CliA Go.Proofs.Ytbeefbhoccdicaa.CliK Go.Proofs.Ytbeefbhoccdicaa.CliT Go.Proofs.Ytbeefbhoccdicaa.TakeT Go.Proofs.Ytbeefbhoccdicaa.DecS Go.Proofs.Ytbeefbhoccdicaa.EncS
set_option linter.unusedVariables false
set_option linter.unusedSimpArgs false

theorem ended_open (w : World) (g : Nat) (n ma ld : Int) (A : Option Addr) (cl : Nat) (seq since silent : Int) (h : Value) (H : Cli w g n ma ld (.slice A 1 cl) 0 seq since silent h) :
    Calls Try.prog 67 #[.pointer (some ⟨g, 0, none⟩)] w fun e w' => e = .returned (.bool false) ∧ ∃ m, w' = w.drewN m := (ended_calls w g n ma ld A 1 cl 0 seq since silent h H)
theorem ended_shut (w : World) (g : Nat) (n ma ld : Int) (A : Option Addr) (cl : Nat) (seq since silent : Int) (h : Value) (H : Cli w g n ma ld (.slice A 1 cl) 1 seq since silent h) :
    Calls Try.prog 67 #[.pointer (some ⟨g, 0, none⟩)] w fun e w' => e = .returned (.bool true) ∧ ∃ m, w' = w.drewN m := (ended_calls w g n ma ld A 1 cl 1 seq since silent h H)
theorem handle_nil (w : World) (v : Value) (hv : v = .agg #[.int .i64 0, .int .i64 0, .string ⟨#[]⟩]) : Calls Try.prog 68 #[.pointer none, v] w fun e w' => e = .returned (.tuple #[]) ∧ Below w.heap.size w w' := by
  subst hv
  go_enter Try.func68, Try.ntmps68
  go_wp2_with fail
  have HB1 := Aside0.mk (below_alloc (Below.refl w.heap.size w) (.cells #[.int .i64 0, .int .i64 0, .string ⟨#[]⟩] 134))
  generalize w.alloc (.cells #[.int .i64 0, .int .i64 0, .string ⟨#[]⟩] 134) = w1 at HB1 ⊢
  go_quiet ((go_at_call 67; exact Calls.quiet_of (ended_nil _)))
  go_wp2_with fail
  refine bodyPost_ret (results_none rfl _ _ _) rfl ⟨rfl, ?_⟩
  exact pw_below_drewN HB1.out nq
set_option maxHeartbeats 8000000 in
set_option maxRecDepth 100000 in
theorem handle_told (w : World) (g : Nat) (n ma ld : Int) (A0 : Option Addr) (cl : Nat) (sq since silent : Int) (h : Value) (fr : Int) (s : ByteArray) (k : Nat) (ses : Int) (seq er rid sid st step ep : Nat)
    (H : Cli w g n ma ld (.slice A0 1 cl) 0 sq since silent h) (hn : 0 ≤ n ∧ n ≤ 100)
    (hb : bs s = vb 10 6 ++ bT k ses seq er rid sid st step ep) (hs : Sz s) (hk : k ≤ 3) (hses : In ses) (hseq : seq ≤ 2147483647) (her : er ≤ 2147483647) (hrid : rid ≤ 2147483647) (hsid : sid ≤ 2147483647) (hst : st ≤ 2147483647) (hstep : step ≤ 2147483647) (hep : ep ≤ 2147483647)
    (P : World → Prop)
    (HT : ∀ (w7 : World) (A : Option Addr) (c : Nat), Below w.heap.size w w7 → Calls Try.prog 107 #[.pointer (some ⟨g, 0, none⟩), .agg (toldC k ses seq er rid sid st step ep (.slice A 0 c))] w7 fun e w' => e = .returned (.tuple #[]) ∧ P w') :
    Calls Try.prog 68 #[.pointer (some ⟨g, 0, none⟩), .agg #[.int .i64 fr, .int .i64 (200 + n), .string s]] w fun e w' => e = .returned (.tuple #[]) ∧ P w' := by
  have HH := Aside0.mk H
  have HTT := Aside0.mk HT
  have HBS := Aside0.mk hb
  have HSZ := Aside0.mk hs
  have hlt : g < w.heap.size := blk_lt H
  clear H HT hb hs
  go_enter Try.func68, Try.ntmps68
  go_wp2_with fail
  have HB1 := Aside0.mk (below_alloc (Below.refl w.heap.size w) (.cells #[.int .i64 fr, .int .i64 (200 + n), .string s] 134))
  have HX1 := Aside0.mk (blk_new w (.cells #[.int .i64 fr, .int .i64 (200 + n), .string s] 134))
  have HC1 := Aside0.mk (show Cli (w.alloc (.cells #[.int .i64 fr, .int .i64 (200 + n), .string s] 134)) g n ma ld (.slice A0 1 cl) 0 sq since silent h from blk_alloc HH.out _)
  generalize w.alloc (.cells #[.int .i64 fr, .int .i64 (200 + n), .string s] 134) = w1 at HB1 HX1 HC1 ⊢
  have h0 := HC1.out.c0
  have x1 : w1.cell? ⟨w.heap.size, 1, none⟩ = some (.int .i64 (200 + n)) := (blk_cell HX1.out 1).trans rfl
  have x2 : w1.cell? ⟨w.heap.size, 2, none⟩ = some (.string s) := (blk_cell HX1.out 2).trans rfl
  go_quiet ((go_at_call 67; exact Calls.quiet_of (ended_open _ g n ma ld A0 cl sq since silent h HC1.out)))
  have HB2 := Aside0.mk (pw_below_drewN HB1.out nq)
  have y2 : (w1.drewN nq).cell? ⟨w.heap.size, 2, none⟩ = some (.string s) := x2
  clear x1 x2 h0
  generalize w1.drewN nq = w2 at HB2 y2 ⊢
  go_wp2_with fail
  refine (decTold_calls w2 s k ses seq er rid sid st step ep HBS.out HSZ.out hk hses hseq her hrid hsid hst hstep hep).mono ?_
  rintro e w3 ⟨⟨cs, A, c, rfl, h86, hc0, hcT, hone⟩, hb3⟩
  have HB3 := Aside0.mk (below_then HB2.out HB2.out.size hb3)
  have H86 := Aside0.mk h86
  have HC0 := Aside0.mk hc0
  have HCT := Aside0.mk hcT
  have HONE := Aside0.mk hone
  clear h86 hc0 hcT hone hb3 y2
  have HN3 := Aside0.mk (blk_new w3 (.cells Try.zeroCells192 192))
  have HIN := Aside0.mk (show (Try.prog.info? 192).map (·.size) = some cs.size by rw [H86.out]; kernel_rfl)
  have HSZ' := Aside0.mk (show Try.zeroCells192.size = cs.size by rw [H86.out, zc_size])
  have HAL := Aside0.mk (Array.all_eq_true_iff_forall_mem.2 HONE.out)
  obtain ⟨w4, hw4⟩ : ∃ w4, (w3.alloc (.cells Try.zeroCells192 192)).setRow w3.heap.size cs = w4 := ⟨_, rfl⟩
  have HY4 := Aside0.mk (show w4.heap[w3.heap.size]? = some (.cells cs 192 (0, 0)) by rw [← hw4]; exact setRow_heap _ _ _ _ _ _ HN3.out)
  have HB4 := Aside0.mk (show Below w.heap.size w w4 by rw [← hw4]; exact below_setRow (below_alloc HB3.out (.cells Try.zeroCells192 192)) HB3.out.size _)
  have hc4 : w4.cell? ⟨w3.heap.size, 0, none⟩ = some (.int .i64 6) := (blk_cell HY4.out 0).trans HC0.out
  have HR4 := Aside0.mk (range_of HY4.out HCT.out)
  go_wp2_with (first | ((with_reducible refine gate_dst (N := 66) rfl ?_); refine wpList_load_mid rfl 126 (.tmp 65) rfl w3.heap.size 67 rfl _ _ HR4.out Try.underlying126 rfl (by kernel_rfl) ?_) | ((with_reducible refine gate_store (t := 192) (p := 4) rfl ?_); refine wpList_store_row rfl 192 (.tmp 4) (.tmp 22) rfl w3.heap.size cs rfl rfl 192 Try.zeroCells192 HN3.out HIN.out HSZ'.out HAL.out ?_))
  clear hw4
  refine (HTT.out w4 A c HB4.out).mono ?_
  rintro e w5 ⟨rfl, hp⟩
  have HP := Aside0.mk hp
  clear hp hc4
  go_wp2_with fail
  go_end0
  exact ⟨rfl, HP.out⟩
end Go.Proofs.Ytbeefbhoccdicaa.CliH
