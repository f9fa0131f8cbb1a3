/- A region that draws its order, whose callees may make memory: one walk; what a packet says: walked. -/
import Derived.Test.YtbeefbhoccdicaaCliP
import Derived.Test.YtbeefbhoccdicaaCliV
namespace Go.Proofs.Ytbeefbhoccdicaa.CliB
open Go.RowKit Go.Proofs.YtbeefbhoccdicaaW.PrintWords Go.Proofs.YtbeefbhoccdicaaW.PrintLast Go.Proofs.YtbeefbhoccdicaaW.PrintMore Go.Proofs.Ytbeefbhoccdicaa.QGraphReads Go.Proofs.Ytbeefbhoccdicaa.PlainV Go.Proofs.Ytbeefbhoccdicaa.WireNum Go.Proofs.Ytbeefbhoccdicaa.WireRead Go.Proofs.Ytbeefbhoccdicaa.RdSpec Go.Proofs.Ytbeefbhoccdicaa.RdC Go.Proofs.Ytbeefbhoccdicaa.CloneC Go.Proofs.Ytbeefbhoccdicaa.CliA Go.Proofs.Ytbeefbhoccdicaa.CliK Go.Proofs.Ytbeefbhoccdicaa.CliT Go.Proofs.Ytbeefbhoccdicaa.TakeA Go.Proofs.Ytbeefbhoccdicaa.TakeT Go.Proofs.Ytbeefbhoccdicaa.DecS Go.Proofs.Ytbeefbhoccdicaa.EncS Go.Proofs.Ytbeefbhoccdicaa.CliH Go.Proofs.Ytbeefbhoccdicaa.CliL Go.Proofs.Ytbeefbhoccdicaa.CliP Go.Proofs.Ytbeefbhoccdicaa.CliV
set_option linter.unusedVariables false
set_option linter.unusedSimpArgs false

/-- The blocks that there were stand. -/
def Kp (w w' : World) : Prop := Below w.heap.size w w'
theorem Kp.refl (w : World) : Kp w w := Below.refl _ w
theorem Kp.of_below {w w' : World} (h : Below w.heap.size w w') : Kp w w' := h
theorem Kp.to {w w' : World} (h : Kp w w') : Below w.heap.size w w' := h
theorem Kp.trans {a b c : World} (h : Kp a b) (k : Kp b c) : Kp a c := below_then h h.to.size k
theorem Kp.but {a b c : World} {g : Nat} (h : Kp a b) (k : KB b c g) (hg : a.heap.size ≤ g) : Kp a c := KB.below h k hg
theorem Kp.cell {w w' : World} (h : Kp w w') {p : Addr} {v : Value} (hc : w.cell? p = some v) : w'.cell? p = some v := (h.to.cell (World.block_lt_of_cell? _ _ hc)).trans hc
theorem Kp.blk {w w' : World} (h : Kp w w') {i : Nat} {o : Obj} (hc : w.heap[i]? = some o) : w'.heap[i]? = some o := blk_below hc h.to
theorem Kp.drewN {w w' : World} (h : Kp w w') (n : Nat) : Kp w (w'.drewN n) := pw_below_drewN h.to n
/-- A world in which the blocks of w stand. -/
structure BW (w : World) where
  w' : World
  h : Kp w w'
instance {w : World} : Nonempty (BW w) := ⟨⟨w, Kp.refl w⟩⟩
theorem region_quietB {P : Program} {id : Nat} {Q : Exit → Act → World → Prop} {a : Act} {w : World} {l : List Oper} (hm : P.follows .mixedOrders = true) (hB : Region.lexB .any l.toArray = true)
    (h : wpQuiet P l.toArray (fun w' => ∃ n : BW w, w' = n.w') (fun a' => ∀ w', (∃ n : BW w, w' = n.w') → Q .normal a' w') l a) : (Code.region id l.toArray true).wp P Q a w :=
  wp_region_quiet (C := fun w' => ∃ n : BW w, w' = n.w') hm hB ⟨⟨w.drew, below_drew1 (Below.refl _ w)⟩, rfl⟩ (by simpa using h)
theorem quietB {P : Program} {w : World} (n : BW w) {f : FuncId} {args : Array Value} {v : Value} (h : Calls P f args n.w' fun e w'' => e = .returned v ∧ Kp n.w' w'') : Calls P f args n.w' fun e w'' => e = .returned v ∧ ∃ m : BW w, w'' = m.w' :=
  h.mono fun _ _ ⟨he, hb⟩ => ⟨he, ⟨_, n.h.trans hb⟩, rfl⟩
set_option maxHeartbeats 8000000 in
set_option maxRecDepth 100000 in
theorem say_ask (w : World) (fr tt : Int) (x : ByteArray) (k : Nat) (ses : Int) (seq id : Nat) (s : ByteArray) (hb : bs x = vb 10 5 ++ bA k ses seq id s) (hs : Sz x) (hk : k ≤ 3) (hses : In ses) (hseq : seq ≤ 2147483647) (hid : id ≤ 2147483647) :
    Calls Try.prog 102 #[.agg #[.int .i64 fr, .int .i64 tt, .string x]] w fun e w' => e = .returned (.agg (putL (z5 5) 62 (askC k ses seq id s).toList)) ∧ Below w.heap.size w w' := by
  have HBX := Aside0.mk hb
  have HSX := Aside0.mk hs
  clear hb hs
  obtain ⟨C0, hC0⟩ : ∃ C0, putL (z5 5) 62 (askC k ses seq id s).toList = C0 := ⟨_, rfl⟩
  rw [hC0]
  have HC0 := Aside0.mk hC0
  clear hC0
  go_enter Try.func102, Try.ntmps102
  go_wp2_with fail
  have HB1 := Aside0.mk (below_alloc (below_alloc (Below.refl w.heap.size w) (.cells #[.int .i64 fr, .int .i64 tt, .string x] 134)) (.cells Try.zeroCells192 192))
  have HX1 := Aside0.mk (show ((w.alloc (.cells #[.int .i64 fr, .int .i64 tt, .string x] 134)).alloc (.cells Try.zeroCells192 192)).heap[w.heap.size + 1]? = some (.cells Try.zeroCells192 192 (0, 0)) by have := blk_new (w.alloc (.cells #[.int .i64 fr, .int .i64 tt, .string x] 134)) (.cells Try.zeroCells192 192); simpa using this)
  generalize (w.alloc (.cells #[.int .i64 fr, .int .i64 tt, .string x] 134)).alloc (.cells Try.zeroCells192 192) = w1 at HB1 HX1 ⊢
  refine (decAsk_calls w1 x k ses seq id s HBX.out HSX.out hk hses hseq hid).mono ?_
  rintro e w2 ⟨⟨cs, rfl, h86, hc0, hcA, hone, heq⟩, hb2⟩
  rw [HC0.out] at heq
  subst heq
  have HB2 := Aside0.mk (below_then HB1.out HB1.out.size hb2)
  have HX2 := Aside0.mk (blk_below HX1.out hb2)
  have H86 := Aside0.mk h86
  have HONE := Aside0.mk hone
  have HN2 := Aside0.mk (blk_new w2 (.cells Try.zeroCells192 192))
  have HIN := Aside0.mk (show (Try.prog.info? 192).map (·.size) = some cs.size by rw [H86.out]; kernel_rfl)
  have HSZ := Aside0.mk (show Try.zeroCells192.size = cs.size by rw [H86.out, zc_size])
  have HAL := Aside0.mk (Array.all_eq_true_iff_forall_mem.2 HONE.out)
  obtain ⟨w3, hw3⟩ : ∃ w3, (w2.alloc (.cells Try.zeroCells192 192)).setRow w2.heap.size cs = w3 := ⟨_, rfl⟩
  have hne : w.heap.size + 1 ≠ w2.heap.size := by have := blk_lt HX2.out; omega
  have HY3 := Aside0.mk (show w3.heap[w2.heap.size]? = some (.cells cs 192 (0, 0)) by rw [← hw3]; exact setRow_heap _ _ _ _ _ _ HN2.out)
  have HX3 := Aside0.mk (show w3.heap[w.heap.size + 1]? = some (.cells Try.zeroCells192 192 (0, 0)) by rw [← hw3]; exact (setRow_other _ _ _ _ hne).trans (blk_alloc HX2.out (.cells Try.zeroCells192 192)))
  have HB3 := Aside0.mk (show Below w.heap.size w w3 by rw [← hw3]; exact below_setRow (below_alloc HB2.out (.cells Try.zeroCells192 192)) HB2.out.size _)
  clear h86 hc0 hcA hone hb2 HX2
  go_wp2_with (first | ((with_reducible refine gate_dst (N := 11) rfl ?_); refine wpList_load_row rfl 192 (.tmp 3) rfl w2.heap.size rfl 192 cs (0, 0) _ HY3.out Try.underlying192 rfl HIN.out ?_) | ((with_reducible refine gate_store (t := 192) (p := 2) rfl ?_); refine wpList_store_row rfl 192 (.tmp 2) (.tmp 11) rfl (w.heap.size + 1) cs rfl rfl 192 Try.zeroCells192 HX3.out HIN.out HSZ.out HAL.out ?_) | ((with_reducible refine gate_store (t := 192) (p := 3) rfl ?_); refine wpList_store_row rfl 192 (.tmp 3) (.tmp 9) rfl w2.heap.size cs rfl rfl 192 Try.zeroCells192 HN2.out HIN.out HSZ.out HAL.out ?_))
  refine bodyPost_ret (v := .agg cs) (results_cell_row rfl _ _ (w.heap.size + 1) 192 _ _ _ rfl (setRow_heap _ _ _ _ _ _ HX3.out) Try.underlying192 rfl HIN.out) rfl ⟨rfl, below_setRow HB3.out (by omega) _⟩
end Go.Proofs.Ytbeefbhoccdicaa.CliB
