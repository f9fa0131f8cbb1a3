/- A client is told something: walked. -/
import Derived.Test.YtbeefbhoccdicaaCliK
import Derived.Test.YtbeefbhoccdicaaDecS
import Derived.Maps.AppendAt
import Derived.BigQuiet
import Derived.Laws.CopyOwn
import Derived.Laws.Tables
namespace Go.Proofs.Ytbeefbhoccdicaa.CliT
open Go.RowKit Go.Proofs.YtbeefbhoccdicaaW.PrintWords Go.Proofs.YtbeefbhoccdicaaW.PrintLast Go.Proofs.YtbeefbhoccdicaaW.PrintMore Go.Proofs.Ytbeefbhoccdicaa.QGraphReads Go.Proofs.Ytbeefbhoccdicaa.CloneC Go.Proofs.Ytbeefbhoccdicaa.CliA Go.Proofs.Ytbeefbhoccdicaa.CliK Go.Proofs.Ytbeefbhoccdicaa.TakeT
set_option linter.unusedVariables false
set_option linter.unusedSimpArgs false

/-- append(v, x) in a region, wherever x's block lies. -/
theorem step_append_at {α : Type} {ops : Array Oper} {o : Oper} {a : Act} {Q : Exit → Act → World → Prop} {K : Act → World → Prop} (d : Kd α) {W : World} (base : Nat) (hw : Region.wanted o (yielded ops a.tmps) = true) (s x : Operand) (t e : TypeId) (z : Value) (bytes : Nat)
    (ho : o.op = .call { callee := .builtin .append, args := #[s, x], argTypes := #[t, t] })
    (ht : Try.prog.underlying t = some (.slice e)) (hinfo : (Try.prog.info? e).map (fun i => (i.zero, i.size, i.bytes)) = some (some z, d.sz, bytes)) (hz : z.cells.size = d.sz) (hs0 : 0 < d.sz) (hb0 : 0 < bytes)
    (v : Value) (xs : List α) (p : α) (cs : List Value) (hs : a.eval s = v) (g : Nat) (hx : a.eval x = .slice (some ⟨g, 0, none⟩) 1 1) (hgb : W.heap[g]? = some (.cells cs.toArray e (0, 0)))
    (hp : d.M W base (fun _ => False) p cs) (HO : d.R e W base (fun _ => True) v xs) (hbase : base ≤ W.heap.size) (hl : (xs.length + 1) * bytes ≤ 140737488355328)
    (h : ∀ v1 w1, d.R e w1 base (fun _ => True) v1 (xs ++ [p]) → W.grownBy w1 v.ownBlock → K (a.put o.dst v1) w1) :
    if Region.wanted o (yielded ops a.tmps) = true then Oper.wp Try.prog o a W K Q else K (a.put o.dst undef) W := by
  obtain ⟨i0, hi, hzz⟩ := Option.map_eq_some_iff.1 hinfo
  simp only [Prod.mk.injEq] at hzz
  obtain ⟨hz0, hz1, hz2⟩ := hzz
  obtain ⟨h0, inner, hown, hr⟩ := HO
  have hlen : xs.length + 1 ≤ 140737488355328 := Nat.le_trans (Nat.le_mul_of_pos_right _ hb0) hl
  rw [if_pos hw]
  have hys := d.K_len (d.K_of_M hp)
  obtain ⟨v1, w1, hrn, hown1, hg, _, hat⟩ := run_append_own_at (P := Try.prog) W base t o.type e i0 z d.sz bytes ht hi hz0 hz1 hz2 hz hs0 v xs.length inner hown ⟨g, 0, none⟩ 1 1 cs (by rw [hys]; simp)
    (by simpa using World.news_of_block (cs := cs.toArray) (t := e) (fr := (0, 0)) hgb) (d.K_one (d.K_of_M hp)) (by simp only [maxLen]; omega) hl hbase
  unfold Oper.wp execOp
  simp only [ho, resolve, invoke, builtin, Sem.run_bind, Sem.run_pure, Result.andThen_ok, List.map_toArray, List.map_cons, List.map_nil, hs, hx, hrn]
  refine h v1 w1 (Kd.R_appended h0 hr hp (fun _ hk => hk.elim) (fun _ _ => trivial) hown1 hg ?_) hg
  rcases hat with hat | hat
  · exact .inl hat
  · exact .inr ⟨_, hat, Nat.le_refl _⟩
theorem R_set {α : Type} {d : Kd α} {e : Nat} {w : World} {base : Nat} {v : Value} {xs : List α} (h : d.R e w base (fun _ => True) v xs) {g t : Nat} {cs : Array Value} (hg : w.heap[g]? = some (.cells cs t (0, 0))) (ht : ∀ q, q ∈ e :: d.E → q ≠ t) (j : Nat) (u : Value) : d.R e (w.setCell ⟨g, j, none⟩ u) base (fun _ => True) v xs := by
  refine Kd.R_mono (Kd.R_move (Kd.R_bound h) ?_) (fun _ _ => trivial)
  rintro b ⟨_, _, _, q, hm, cells, hc⟩
  exact Below.heap_setCell w ⟨g, j, none⟩ u b (blk_ne hc hg (ht q hm))
/-- All but the block g stands, and the streams are as they were. -/
structure KB (w w' : World) (g : Nat) : Prop where
  size : w.heap.size ≤ w'.heap.size
  blk : ∀ i, i < w.heap.size → i ≠ g → w'.heap[i]? = w.heap[i]?
  os : w'.os = w.os
  tape : w'.tape = w.tape
  output : w'.output = w.output
theorem KB.refl (w : World) (g : Nat) : KB w w g := ⟨Nat.le_refl _, fun _ _ _ => rfl, rfl, rfl, rfl⟩
theorem KB.of_below {w w1 : World} (h : Below w.heap.size w w1) (g : Nat) : KB w w1 g := ⟨h.size, fun i hi _ => h.block i hi, h.os, h.tape, h.output⟩
theorem KB.of_grown {w w1 : World} (h : w.grownBy w1 none) (g : Nat) : KB w w1 g := ⟨h.size, fun i hi _ => h.block i hi (by simp), h.os, h.tape, h.output⟩
theorem KB.trans {a b c : World} {g : Nat} (h : KB a b g) (k : KB b c g) : KB a c g := ⟨Nat.le_trans h.size k.size, fun i hi hg => (k.blk i (Nat.lt_of_lt_of_le hi h.size) hg).trans (h.blk i hi hg), k.os.trans h.os, k.tape.trans h.tape, k.output.trans h.output⟩
theorem KB.drew {w w1 : World} {g : Nat} (h : KB w w1 g) : KB w w1.drew g := ⟨h.size, h.blk, h.os, h.tape, h.output⟩
theorem KB.drewN {w w1 : World} {g : Nat} (h : KB w w1 g) (n : Nat) : KB w (w1.drewN n) g := ⟨h.size, h.blk, h.os, h.tape, h.output⟩
theorem KB.set_ {w w1 : World} {g : Nat} (h : KB w w1 g) (j : Nat) (u : Value) : KB w (w1.setCell ⟨g, j, none⟩ u) g :=
  ⟨by simpa [World.setCell] using h.size, fun i hi hg => (Below.heap_setCell w1 ⟨g, j, none⟩ u i hg).trans (h.blk i hi hg), h.os, h.tape, h.output⟩
theorem kb_alloc {w w1 : World} {g : Nat} (h : KB w w1 g) (o : Obj) : KB w (w1.alloc o) g := h.trans (KB.of_below (below_alloc (Below.refl _ _) o) g)
/-- A block of the call's own has turned: below it all stands. -/
theorem KB.below {a b c : World} {g : Nat} (h : Below a.heap.size a b) (k : KB b c g) (hg : a.heap.size ≤ g) : Below a.heap.size a c :=
  ⟨k.os.trans h.os, k.tape.trans h.tape, k.output.trans h.output, Nat.le_trans h.size k.size, fun i hi => (k.blk i (Nat.lt_of_lt_of_le hi h.size) (by omega)).trans (h.block i hi)⟩
def T10 : Bool × List (List Nat × List Nat) := (true, [([], []), ([], []), ([1], [1]), ([2], [2]), ([3], [3]), ([], []), ([5], [5]), ([6], [6]), ([7], [7]), ([], []), ([9], [9]), ([], []), ([11], [11]), ([8, 10, 12], [8, 10, 12]), ([13], [13]), ([4, 14], [4, 14]), ([0, 0, 1, 2, 3, 4, 5, 6, 7, 8, 9, 10, 11, 12, 13, 14, 15], [0]), ([16, 0, 1, 2, 3, 4, 5, 6, 7, 8, 9, 10, 11, 12, 13, 14, 15], [16]), ([17, 15, 15, 0, 1, 2, 3, 4, 5, 6, 7, 8, 9, 10, 11, 12, 13, 14, 15], [15, 17])])
def B10 : List Nat := [0, 0, 2, 6, 14, 0, 32, 96, 224, 0, 512, 0, 2048, 8160, 16352, 32766, 65535, 131071, 262143]
theorem tab10 : rtab .any (opsOf Try.f107 10) = T10 := by kernel_rfl
theorem bits10 : waitsOk T10.2 B10 = true := by kernel_rfl
set_option maxHeartbeats 8000000 in
set_option maxRecDepth 100000 in
theorem told_submit (w : World) (g : Nat) (n ma ld : Int) (b cl : Nat) (seq since silent : Int) (s : ByteArray) (id : Int) (rid sid st step ep : Nat) (A : Option Addr) (c : Nat)
    (H : Cli w g n ma ld (.slice (some ⟨b, 0, none⟩) 1 cl) 0 seq since silent (.slice none 0 0)) (hn : 0 ≤ n ∧ n ≤ 100) (sq : Nat) (hs : 0 ≤ seq ∧ seq ≤ 1000000) (hsq : (sq : Int) = (seq + 1))
    (k0 : w.cell? ⟨b, 0, none⟩ = some (.int .i64 1)) (k1 : w.cell? ⟨b, 1, none⟩ = some (.string s)) (k2 : w.cell? ⟨b, 2, none⟩ = some (.int .i64 id)) :
    Calls Try.prog 107 #[.pointer (some ⟨g, 0, none⟩), .agg (toldC 1 (n + 1) sq 0 rid sid st step ep (.slice A 0 c))] w fun e w' => e = .returned (.tuple #[]) ∧ ∃ Av cv, Cli w' g n ma ld (.slice (some ⟨b, 0, none⟩) 1 cl) 1 (seq + 1) 0 0 (.slice Av 1 cv) ∧ Kd.R (Kd.raw 11) 130 w' w.heap.size (fun _ => True) (.slice Av 1 cv) [[.int .i64 0, .int .i64 0, .int .i64 rid, .int .i64 sid, .int .i64 st, .int .i64 step, .int .i64 ep, .int .i64 0, .int .i64 0, .int .i64 0, .slice A 0 c]] ∧ KB w w' g := by
  have HH := Aside0.mk H
  simp only [toldC, hsq,  show ((1 : Nat) : Int) = 1 from rfl, show ((0 : Nat) : Int) = 0 from rfl]
  have hlt : g < w.heap.size := blk_lt H
  have hlk : b < w.heap.size := World.block_lt_of_cell? _ _ k0
  clear H
  go_enter Try.func107, Try.ntmps107
  go_wp2_with fail
  have HB1 := Aside0.mk (below_alloc (Below.refl w.heap.size w) (.cells #[.int .i64 1, .int .i64 (n + 1), .int .i64 (seq + 1), .int .i64 0, .int .i64 rid, .int .i64 sid, .int .i64 st, .int .i64 step, .int .i64 ep, .int .i64 0, .int .i64 0, .int .i64 0, .slice A 0 c] 126))
  have HX1 := Aside0.mk (blk_new w (.cells #[.int .i64 1, .int .i64 (n + 1), .int .i64 (seq + 1), .int .i64 0, .int .i64 rid, .int .i64 sid, .int .i64 st, .int .i64 step, .int .i64 ep, .int .i64 0, .int .i64 0, .int .i64 0, .slice A 0 c] 126))
  have HC1 := Aside0.mk (show Cli (w.alloc (.cells #[.int .i64 1, .int .i64 (n + 1), .int .i64 (seq + 1), .int .i64 0, .int .i64 rid, .int .i64 sid, .int .i64 st, .int .i64 step, .int .i64 ep, .int .i64 0, .int .i64 0, .int .i64 0, .slice A 0 c] 126)) g n ma ld (.slice (some ⟨b, 0, none⟩) 1 cl) 0 seq since silent (.slice none 0 0) from blk_alloc HH.out _)
  have hz1 : (w.alloc (.cells #[.int .i64 1, .int .i64 (n + 1), .int .i64 (seq + 1), .int .i64 0, .int .i64 rid, .int .i64 sid, .int .i64 st, .int .i64 step, .int .i64 ep, .int .i64 0, .int .i64 0, .int .i64 0, .slice A 0 c] 126)).heap.size > w.heap.size := blk_lt HX1.out
  replace k0 := (HB1.out.cell hlk).trans k0
  replace k1 := (HB1.out.cell hlk).trans k1
  replace k2 := (HB1.out.cell hlk).trans k2
  generalize w.alloc (.cells #[.int .i64 1, .int .i64 (n + 1), .int .i64 (seq + 1), .int .i64 0, .int .i64 rid, .int .i64 sid, .int .i64 st, .int .i64 step, .int .i64 ep, .int .i64 0, .int .i64 0, .int .i64 0, .slice A 0 c] 126) = w1 at HB1 HX1 HC1 k0 k1 k2 hz1 ⊢
  refine (ask_submit w1 g n ma ld b cl seq since silent _ s id HC1.out hn hs k0 k1 k2).mono ?_
  rintro e w2 ⟨rfl, hb2⟩
  have HB2 := Aside0.mk (below_then HB1.out HB1.out.size hb2)
  have HX2 := Aside0.mk (blk_below HX1.out hb2)
  have HC2 := Aside0.mk (show Cli w2 g n ma ld (.slice (some ⟨b, 0, none⟩) 1 cl) 0 seq since silent (.slice none 0 0) from blk_below HC1.out hb2)
  replace k0 := (hb2.cell (show (⟨b, 0, none⟩ : Addr).block < w1.heap.size by show b < w1.heap.size; omega)).trans k0
  have hz2 : w.heap.size < w2.heap.size := by have := hb2.size; omega
  clear k1 k2 HB1 HX1 HC1 HH hz1 hb2
  have h3 := HC2.out.c3
  have h4 := HC2.out.c4
  have h5 := HC2.out.c5
  have hf5 := blk_frozen HC2.out 5
  have h7 := HC2.out.c7
  have hf7 := blk_frozen HC2.out 7
  have x0 : w2.cell? ⟨w.heap.size, 0, none⟩ = some (.int .i64 1) := (blk_cell HX2.out 0).trans rfl
  have x1 : w2.cell? ⟨w.heap.size, 1, none⟩ = some (.int .i64 (n + 1)) := (blk_cell HX2.out 1).trans rfl
  have x2 : w2.cell? ⟨w.heap.size, 2, none⟩ = some (.int .i64 (seq + 1)) := (blk_cell HX2.out 2).trans rfl
  have x3 : w2.cell? ⟨w.heap.size, 3, none⟩ = some (.int .i64 0) := (blk_cell HX2.out 3).trans rfl
  have x4 : w2.cell? ⟨w.heap.size, 4, none⟩ = some (.int .i64 rid) := (blk_cell HX2.out 4).trans rfl
  have x5 : w2.cell? ⟨w.heap.size, 5, none⟩ = some (.int .i64 sid) := (blk_cell HX2.out 5).trans rfl
  have x6 : w2.cell? ⟨w.heap.size, 6, none⟩ = some (.int .i64 st) := (blk_cell HX2.out 6).trans rfl
  have x7 : w2.cell? ⟨w.heap.size, 7, none⟩ = some (.int .i64 step) := (blk_cell HX2.out 7).trans rfl
  have x8 : w2.cell? ⟨w.heap.size, 8, none⟩ = some (.int .i64 ep) := (blk_cell HX2.out 8).trans rfl
  have x9 : w2.cell? ⟨w.heap.size, 9, none⟩ = some (.int .i64 0) := (blk_cell HX2.out 9).trans rfl
  have x10 : w2.cell? ⟨w.heap.size, 10, none⟩ = some (.int .i64 0) := (blk_cell HX2.out 10).trans rfl
  have x11 : w2.cell? ⟨w.heap.size, 11, none⟩ = some (.int .i64 0) := (blk_cell HX2.out 11).trans rfl
  have x12 : w2.cell? ⟨w.heap.size, 12, none⟩ = some (.slice A 0 c) := (blk_cell HX2.out 12).trans rfl
  have ng : (g = w2.heap.size) = False := eq_false (by omega)
  have nx : (w.heap.size = w2.heap.size) = False := eq_false (by omega)
  have nxg : (w.heap.size = g) = False := eq_false (by omega)
  have nk : (b = w2.heap.size) = False := eq_false (by omega)
  have hg2 : g < w2.heap.size := by omega
  go_wp2_with fail
  have HC3 := Aside0.mk (show Cli (((w2.setCell ⟨g, 7, none⟩ (.int .i64 0)).setCell ⟨g, 5, none⟩ (.int .i64 (seq + 1))).alloc (.cells #[.int .i64 1, .int .i64 (n + 1), .int .i64 (seq + 1), .string s, .int .i64 0] 179)) g n ma ld (.slice (some ⟨b, 0, none⟩) 1 cl) 0 (seq + 1) since 0 (.slice none 0 0) from blk_alloc (blk_set (blk_set HC2.out 7 _) 5 _) _)
  have HX3 := Aside0.mk (show (((w2.setCell ⟨g, 7, none⟩ (.int .i64 0)).setCell ⟨g, 5, none⟩ (.int .i64 (seq + 1))).alloc (.cells #[.int .i64 1, .int .i64 (n + 1), .int .i64 (seq + 1), .string s, .int .i64 0] 179)).heap[w.heap.size]? = some (.cells #[.int .i64 1, .int .i64 (n + 1), .int .i64 (seq + 1), .int .i64 0, .int .i64 rid, .int .i64 sid, .int .i64 st, .int .i64 step, .int .i64 ep, .int .i64 0, .int .i64 0, .int .i64 0, .slice A 0 c] 126 (0, 0)) from blk_alloc (blk_far (blk_far HX2.out (by show w.heap.size ≠ g; omega) _) (by show w.heap.size ≠ g; omega) _) _)
  have HK3 := Aside0.mk (kb_alloc ((KB.of_below HB2.out g).set_ 7 (.int .i64 0) |>.set_ 5 (.int .i64 (seq + 1))) (.cells #[.int .i64 1, .int .i64 (n + 1), .int .i64 (seq + 1), .string s, .int .i64 0] 179))
  have hz3 : w.heap.size < (((w2.setCell ⟨g, 7, none⟩ (.int .i64 0)).setCell ⟨g, 5, none⟩ (.int .i64 (seq + 1))).alloc (.cells #[.int .i64 1, .int .i64 (n + 1), .int .i64 (seq + 1), .string s, .int .i64 0] 179)).heap.size := blk_lt HX3.out
  generalize (((w2.setCell ⟨g, 7, none⟩ (.int .i64 0)).setCell ⟨g, 5, none⟩ (.int .i64 (seq + 1))).alloc (.cells #[.int .i64 1, .int .i64 (n + 1), .int .i64 (seq + 1), .string s, .int .i64 0] 179)) = w3 at HC3 HX3 HK3 hz3 ⊢
  clear HB2 HX2 HC2 k0 hz2 h3 h4 h5 hf5 h7 hf7 ng nx nk hg2 x0 x1 x2 x3 x4 x5 x6 x7 x8 x9 x10 x11 x12
  have HC4 := Aside0.mk (show Cli w3.drew g n ma ld (.slice (some ⟨b, 0, none⟩) 1 cl) 0 (seq + 1) since 0 (.slice none 0 0) from blk_drew HC3.out)
  have HX4 := Aside0.mk (show w3.drew.heap[w.heap.size]? = some (.cells #[.int .i64 1, .int .i64 (n + 1), .int .i64 (seq + 1), .int .i64 0, .int .i64 rid, .int .i64 sid, .int .i64 st, .int .i64 step, .int .i64 ep, .int .i64 0, .int .i64 0, .int .i64 0, .slice A 0 c] 126 (0, 0)) from blk_drew HX3.out)
  have HK4 := Aside0.mk HK3.out.drew
  have hz4 : w.heap.size < w3.drew.heap.size := hz3
  clear HC3 HX3 HK3 hz3
  refine start_ (n := 19) (S := fun w' => w'.cell? ⟨g, 8, none⟩ = some (.slice none 0 0) ∧ w'.cell? ⟨g, 4, none⟩ = some (.int .i64 0) ∧ w'.cell? ⟨w.heap.size, 3, none⟩ = some (.int .i64 0) ∧ w'.cell? ⟨w.heap.size, 4, none⟩ = some (.int .i64 rid) ∧ w'.cell? ⟨w.heap.size, 5, none⟩ = some (.int .i64 sid) ∧ w'.cell? ⟨w.heap.size, 6, none⟩ = some (.int .i64 st) ∧ w'.cell? ⟨w.heap.size, 7, none⟩ = some (.int .i64 step) ∧ w'.cell? ⟨w.heap.size, 8, none⟩ = some (.int .i64 ep) ∧ w'.cell? ⟨w.heap.size, 9, none⟩ = some (.int .i64 0) ∧ w'.cell? ⟨w.heap.size, 10, none⟩ = some (.int .i64 0) ∧ w'.cell? ⟨w.heap.size, 11, none⟩ = some (.int .i64 0) ∧ w'.cell? ⟨w.heap.size, 12, none⟩ = some (.slice A 0 c)) (ds := [18]) #[false, false, false, false, false, false, false, false, false, false, false, false, false, false, false, false, false, false, false] (by kernel_rfl) rfl rfl (⟨HC4.out.c8, HC4.out.c4, (blk_cell HX4.out 3).trans rfl, (blk_cell HX4.out 4).trans rfl, (blk_cell HX4.out 5).trans rfl, (blk_cell HX4.out 6).trans rfl, (blk_cell HX4.out 7).trans rfl, (blk_cell HX4.out 8).trans rfl, (blk_cell HX4.out 9).trans rfl, (blk_cell HX4.out 10).trans rfl, (blk_cell HX4.out 11).trans rfl, (blk_cell HX4.out 12).trans rfl⟩) (fun hHeld => ?_)
  refine with_tabW tab10 bits10 (fun HT_ HW_ => ?_)
  generalize w3.drew = w4 at HC4 HX4 HK4 hz4 hHeld ⊢
  refine pure_ (i := 0) (N := some 93) (v := ?_) (a' := ?_) #[true, false, false, false, false, false, false, false, false, false, false, false, false, false, false, false, false, false, false] rfl rfl (any_of HT_.out (by kernel_rfl)) (fun _ _ _ h => h) (Or.inl ⟨by rfl, ?_⟩) ?_ ?_
  rotate_left
  · intro w'
    go_simp
    with_reducible rfl
  rotate_left
  · simp only [Act.put, List.setIfInBounds_toArray, List.set_cons_zero, List.set_cons_succ, i64_w, i32_w]
    rfl
  refine pure_ (i := 1) (N := some 94) (v := ?_) (a' := ?_) #[true, true, false, false, false, false, false, false, false, false, false, false, false, false, false, false, false, false, false] rfl rfl (any_of HT_.out (by kernel_rfl)) (fun _ _ _ h => h) (Or.inl ⟨by rfl, ?_⟩) ?_ ?_
  rotate_left
  · intro w'
    go_simp
    with_reducible rfl
  rotate_left
  · simp only [Act.put, List.setIfInBounds_toArray, List.set_cons_zero, List.set_cons_succ, i64_w, i32_w]
    rfl
  refine pure_ (i := 2) (N := some 95) (v := ?_) (a' := ?_) #[true, true, true, false, false, false, false, false, false, false, false, false, false, false, false, false, false, false, false] rfl rfl (any_of HT_.out (by kernel_rfl)) (fun _ _ _ h => h) (Or.inl ⟨by rfl, ?_⟩) ?_ ?_
  rotate_left
  · intro w'
    go_simp
    with_reducible rfl
  rotate_left
  · simp only [Act.put, List.setIfInBounds_toArray, List.set_cons_zero, List.set_cons_succ, i64_w, i32_w]
    rfl
  refine pure_ (i := 3) (N := some 96) (v := ?_) (a' := ?_) #[true, true, true, true, false, false, false, false, false, false, false, false, false, false, false, false, false, false, false] rfl rfl (any_of HT_.out (by kernel_rfl)) (fun _ _ _ h => h) (Or.inl ⟨by rfl, ?_⟩) ?_ ?_
  rotate_left
  · intro w'
    go_simp
    with_reducible rfl
  rotate_left
  · simp only [Act.put, List.setIfInBounds_toArray, List.set_cons_zero, List.set_cons_succ, i64_w, i32_w]
    rfl
  refine take_ (i := 4) (N := some 97) (v := ?_) (a' := ?_) #[true, true, true, true, true, false, false, false, false, false, false, false, false, false, false, false, false, false, false] rfl rfl (take_ofW HT_.out HW_.out (by kernel_rfl)) (fun _ _ _ h => h) (Or.inl ⟨by rfl, ?_⟩) hHeld ?_ ?_
  rotate_left
  · intro w' s0
    go_simp
    with_reducible rfl
  rotate_left
  · simp only [Act.put, List.setIfInBounds_toArray, List.set_cons_zero, List.set_cons_succ, i64_w, i32_w]
    rfl
  refine pure_ (i := 5) (N := some 98) (v := ?_) (a' := ?_) #[true, true, true, true, true, true, false, false, false, false, false, false, false, false, false, false, false, false, false] rfl rfl (any_of HT_.out (by kernel_rfl)) (fun _ _ _ h => h) (Or.inl ⟨by rfl, ?_⟩) ?_ ?_
  rotate_left
  · intro w'
    go_simp
    with_reducible rfl
  rotate_left
  · simp only [Act.put, List.setIfInBounds_toArray, List.set_cons_zero, List.set_cons_succ, i64_w, i32_w]
    rfl
  refine pure_ (i := 6) (N := some 99) (v := ?_) (a' := ?_) #[true, true, true, true, true, true, true, false, false, false, false, false, false, false, false, false, false, false, false] rfl rfl (any_of HT_.out (by kernel_rfl)) (fun _ _ _ h => h) (Or.inl ⟨by rfl, ?_⟩) ?_ ?_
  rotate_left
  · intro w'
    go_simp
    with_reducible rfl
  rotate_left
  · simp only [Act.put, List.setIfInBounds_toArray, List.set_cons_zero, List.set_cons_succ, i64_w, i32_w]
    rfl
  refine pure_ (i := 7) (N := some 100) (v := ?_) (a' := ?_) #[true, true, true, true, true, true, true, true, false, false, false, false, false, false, false, false, false, false, false] rfl rfl (any_of HT_.out (by kernel_rfl)) (fun _ _ _ h => h) (Or.inl ⟨by rfl, ?_⟩) ?_ ?_
  rotate_left
  · intro w'
    go_simp
    with_reducible rfl
  rotate_left
  · simp only [Act.put, List.setIfInBounds_toArray, List.set_cons_zero, List.set_cons_succ, i64_w, i32_w]
    rfl
  refine take_ (i := 8) (N := some 101) (v := ?_) (a' := ?_) #[true, true, true, true, true, true, true, true, true, false, false, false, false, false, false, false, false, false, false] rfl rfl (take_ofW HT_.out HW_.out (by kernel_rfl)) (fun _ _ _ h => h) (Or.inl ⟨by rfl, ?_⟩) hHeld ?_ ?_
  rotate_left
  · intro w' s0
    go_simp
    with_reducible rfl
  rotate_left
  · simp only [Act.put, List.setIfInBounds_toArray, List.set_cons_zero, List.set_cons_succ, i64_w, i32_w]
    rfl
  refine pure_ (i := 9) (N := some 102) (v := ?_) (a' := ?_) #[true, true, true, true, true, true, true, true, true, true, false, false, false, false, false, false, false, false, false] rfl rfl (any_of HT_.out (by kernel_rfl)) (fun _ _ _ h => h) (Or.inl ⟨by rfl, ?_⟩) ?_ ?_
  rotate_left
  · intro w'
    go_simp
    with_reducible rfl
  rotate_left
  · simp only [Act.put, List.setIfInBounds_toArray, List.set_cons_zero, List.set_cons_succ, i64_w, i32_w]
    rfl
  refine take_ (i := 10) (N := some 103) (v := ?_) (a' := ?_) #[true, true, true, true, true, true, true, true, true, true, true, false, false, false, false, false, false, false, false] rfl rfl (take_ofW HT_.out HW_.out (by kernel_rfl)) (fun _ _ _ h => h) (Or.inl ⟨by rfl, ?_⟩) hHeld ?_ ?_
  rotate_left
  · intro w' s0
    go_simp
    with_reducible rfl
  rotate_left
  · simp only [Act.put, List.setIfInBounds_toArray, List.set_cons_zero, List.set_cons_succ, i64_w, i32_w]
    rfl
  refine pure_ (i := 11) (N := some 104) (v := ?_) (a' := ?_) #[true, true, true, true, true, true, true, true, true, true, true, true, false, false, false, false, false, false, false] rfl rfl (any_of HT_.out (by kernel_rfl)) (fun _ _ _ h => h) (Or.inl ⟨by rfl, ?_⟩) ?_ ?_
  rotate_left
  · intro w'
    go_simp
    with_reducible rfl
  rotate_left
  · simp only [Act.put, List.setIfInBounds_toArray, List.set_cons_zero, List.set_cons_succ, i64_w, i32_w]
    rfl
  refine take_ (i := 12) (N := some 105) (v := ?_) (a' := ?_) #[true, true, true, true, true, true, true, true, true, true, true, true, true, false, false, false, false, false, false] rfl rfl (take_ofW HT_.out HW_.out (by kernel_rfl)) (fun _ _ _ h => h) (Or.inl ⟨by rfl, ?_⟩) hHeld ?_ ?_
  rotate_left
  · intro w' s0
    go_simp
    with_reducible rfl
  rotate_left
  · simp only [Act.put, List.setIfInBounds_toArray, List.set_cons_zero, List.set_cons_succ, i64_w, i32_w]
    rfl
  refine pure_ (i := 13) (N := some 106) (v := ?_) (a' := ?_) #[true, true, true, true, true, true, true, true, true, true, true, true, true, true, false, false, false, false, false] rfl rfl (any_of HT_.out (by kernel_rfl)) (fun _ _ _ h => h) (Or.inl ⟨by rfl, ?_⟩) ?_ ?_
  rotate_left
  · intro w'
    go_simp
    with_reducible rfl
  rotate_left
  · simp only [Act.put, List.setIfInBounds_toArray, List.set_cons_zero, List.set_cons_succ, i64_w, i32_w]
    rfl
  refine one_ (i := 14) (N := some 107) #[true, true, true, true, true, true, true, true, true, true, true, true, true, true, true, false, false, false, false] rfl rfl (one_of HT_.out (by kernel_rfl)) (by decide) (fun K hK => ?_)
  refine value_ (w1 := ?_) (v := ?_) (by rfl) rfl ?_ ?_
  rotate_left 2
  · go_simp
    constructor
    · rfl
    · rfl
  have HC5 := Aside0.mk (show Cli (w4.alloc (.cells #[.int .i64 0, .int .i64 0, .int .i64 rid, .int .i64 sid, .int .i64 st, .int .i64 step, .int .i64 ep, .int .i64 0, .int .i64 0, .int .i64 0, .slice A 0 c] 130)) g n ma ld (.slice (some ⟨b, 0, none⟩) 1 cl) 0 (seq + 1) since 0 (.slice none 0 0) from blk_alloc HC4.out _)
  have HX5 := Aside0.mk (show (w4.alloc (.cells #[.int .i64 0, .int .i64 0, .int .i64 rid, .int .i64 sid, .int .i64 st, .int .i64 step, .int .i64 ep, .int .i64 0, .int .i64 0, .int .i64 0, .slice A 0 c] 130)).heap[w.heap.size]? = some (.cells #[.int .i64 1, .int .i64 (n + 1), .int .i64 (seq + 1), .int .i64 0, .int .i64 rid, .int .i64 sid, .int .i64 st, .int .i64 step, .int .i64 ep, .int .i64 0, .int .i64 0, .int .i64 0, .slice A 0 c] 126 (0, 0)) from blk_alloc HX4.out _)
  have HK5 := Aside0.mk (kb_alloc HK4.out (.cells #[.int .i64 0, .int .i64 0, .int .i64 rid, .int .i64 sid, .int .i64 st, .int .i64 step, .int .i64 ep, .int .i64 0, .int .i64 0, .int .i64 0, .slice A 0 c] 130))
  have HG5 := Aside0.mk (blk_new w4 (.cells #[.int .i64 0, .int .i64 0, .int .i64 rid, .int .i64 sid, .int .i64 st, .int .i64 step, .int .i64 ep, .int .i64 0, .int .i64 0, .int .i64 0, .slice A 0 c] 130))
  refine hK.out _ _ (⟨HC5.out.c8, HC5.out.c4, (blk_cell HX5.out 3).trans rfl, (blk_cell HX5.out 4).trans rfl, (blk_cell HX5.out 5).trans rfl, (blk_cell HX5.out 6).trans rfl, (blk_cell HX5.out 7).trans rfl, (blk_cell HX5.out 8).trans rfl, (blk_cell HX5.out 9).trans rfl, (blk_cell HX5.out 10).trans rfl, (blk_cell HX5.out 11).trans rfl, (blk_cell HX5.out 12).trans rfl⟩) (fun hHeld => ?_)
  clear hK K
  refine norm_ (a' := ?_) ?_ ?_
  rotate_left
  · show Act.put _ (some 107) _ = _
    simp only [Act.put, List.setIfInBounds_toArray, List.set_cons_zero, List.set_cons_succ, i64_w, i32_w]
    rfl
  generalize (w4.alloc (.cells #[.int .i64 0, .int .i64 0, .int .i64 rid, .int .i64 sid, .int .i64 st, .int .i64 step, .int .i64 ep, .int .i64 0, .int .i64 0, .int .i64 0, .slice A 0 c] 130)) = w5 at HC5 HX5 HK5 HG5 hHeld ⊢
  refine one_ (i := 15) (N := some 108) #[true, true, true, true, true, true, true, true, true, true, true, true, true, true, true, true, false, false, false] rfl rfl (one_of HT_.out (by kernel_rfl)) (by decide) (fun K hK => ?_)
  refine step_append_at (Kd.raw 11) w.heap.size (by rfl) (.tmp 97) (.tmp 107) 127 130 (.agg #[(.int .i64 0), (.int .i64 0), (.int .i64 0), (.int .i64 0), (.int .i64 0), (.int .i64 0), (.int .i64 0), (.int .i64 0), (.int .i64 0), (.int .i64 0), (.slice none 0 0)]) 104 rfl Try.underlying127 info130 rfl (by decide) (by omega) (.slice none 0 0) [] [.int .i64 0, .int .i64 0, .int .i64 rid, .int .i64 sid, .int .i64 st, .int .i64 step, .int .i64 ep, .int .i64 0, .int .i64 0, .int .i64 0, .slice A 0 c] _ rfl w4.heap.size rfl HG5.out ⟨rfl, rfl, by intro u hu; simp at hu; rcases hu with rfl | rfl | rfl | rfl | rfl | rfl | rfl | rfl | rfl | rfl | rfl <;> rfl⟩ (Kd.R_nil _ _ _ _ _) HK5.out.size (by decide) ?_
  intro v1 w6 hA hg
  have hn0 : (Value.slice none 0 0).ownBlock = none := rfl
  rw [hn0] at hg
  have HC6 := Aside0.mk (show Cli w6 g n ma ld (.slice (some ⟨b, 0, none⟩) 1 cl) 0 (seq + 1) since 0 (.slice none 0 0) from blk_grown HC5.out hg (by simp))
  have HX6 := Aside0.mk (show w6.heap[w.heap.size]? = some (.cells #[.int .i64 1, .int .i64 (n + 1), .int .i64 (seq + 1), .int .i64 0, .int .i64 rid, .int .i64 sid, .int .i64 st, .int .i64 step, .int .i64 ep, .int .i64 0, .int .i64 0, .int .i64 0, .slice A 0 c] 126 (0, 0)) from blk_grown HX5.out hg (by simp))
  have HK6 := Aside0.mk (HK5.out.trans (KB.of_grown hg g))
  rw [List.nil_append] at hA
  obtain ⟨Av, cv, hav⟩ := Kd.R_slice hA
  simp only [List.length_cons, List.length_nil, Nat.zero_add] at hav
  subst hav
  have HA6 := Aside0.mk hA
  clear hg hA hn0 HC5 HX5 HK5 HG5
  refine hK.out _ _ (⟨HC6.out.c8, HC6.out.c4, (blk_cell HX6.out 3).trans rfl, (blk_cell HX6.out 4).trans rfl, (blk_cell HX6.out 5).trans rfl, (blk_cell HX6.out 6).trans rfl, (blk_cell HX6.out 7).trans rfl, (blk_cell HX6.out 8).trans rfl, (blk_cell HX6.out 9).trans rfl, (blk_cell HX6.out 10).trans rfl, (blk_cell HX6.out 11).trans rfl, (blk_cell HX6.out 12).trans rfl⟩) (fun hHeld => ?_)
  clear hK K
  refine norm_ (a' := ?_) ?_ ?_
  rotate_left
  · show Act.put _ (some 108) _ = _
    simp only [Act.put, List.setIfInBounds_toArray, List.set_cons_zero, List.set_cons_succ, i64_w, i32_w]
    rfl
  refine pure_ (i := 16) (N := some 109) (v := ?_) (a' := ?_) #[true, true, true, true, true, true, true, true, true, true, true, true, true, true, true, true, true, false, false] rfl rfl (any_of HT_.out (by kernel_rfl)) (fun _ _ _ h => h) (Or.inl ⟨by rfl, ?_⟩) ?_ ?_
  rotate_left
  · intro w'
    go_simp
    with_reducible rfl
  rotate_left
  · simp only [Act.put, List.setIfInBounds_toArray, List.set_cons_zero, List.set_cons_succ, i64_w, i32_w]
    rfl
  refine pure_ (i := 17) (N := some 110) (v := ?_) (a' := ?_) #[true, true, true, true, true, true, true, true, true, true, true, true, true, true, true, true, true, true, false] rfl rfl (any_of HT_.out (by kernel_rfl)) (fun _ _ _ h => h) (Or.inl ⟨by rfl, ?_⟩) ?_ ?_
  rotate_left
  · intro w'
    go_simp
    with_reducible rfl
  rotate_left
  · simp only [Act.put, List.setIfInBounds_toArray, List.set_cons_zero, List.set_cons_succ, i64_w, i32_w]
    rfl
  refine last_ (i := 18) (N := none) #[true, true, true, true, true, true, true, true, true, true, true, true, true, true, true, true, true, true, true] rfl rfl (one_of HT_.out (by kernel_rfl)) (by decide) (fun K hK => ?_)
  have hc8 := HC6.out.c8
  have hf8 := blk_frozen HC6.out 8
  refine skip_ (w1 := ?_) (by rfl) rfl ?_ ?_
  rotate_left
  · go_simp
    rfl
  refine hK.out _ _ ?_
  clear hK K hc8 hf8
  have HA7 := Aside0.mk (R_set HA6.out HC6.out (by intro q hq; simp [Kd.raw] at hq; subst hq; decide) 8 (.slice Av 1 cv))
  have HC7 := Aside0.mk (show Cli (w6.setCell ⟨g, 8, none⟩ (.slice Av 1 cv)) g n ma ld (.slice (some ⟨b, 0, none⟩) 1 cl) 0 (seq + 1) since 0 (.slice Av 1 cv) from blk_set HC6.out 8 (.slice Av 1 cv))
  have HK7 := Aside0.mk (HK6.out.set_ 8 (.slice Av 1 cv))
  clear HC6 HX6 HK6 HA6 hHeld
  generalize w6.setCell ⟨g, 8, none⟩ (.slice Av 1 cv) = w7 at HA7 HC7 HK7 ⊢
  refine done_ (done_of HT_.out (by kernel_rfl)) ?_
  have g4 := HC7.out.c4
  have g6 := HC7.out.c6
  have gf4 := blk_frozen HC7.out 4
  have gf6 := blk_frozen HC7.out 6
  go_wp2_with fail
  go_end0
  refine ⟨rfl, ?_⟩
  refine ⟨Av, cv, ?_, ?_, ?_⟩
  · exact blk_set (blk_set HC7.out 4 _) 6 _
  · have hC8 : Cli (w7.setCell ⟨g, 4, none⟩ (.int .i64 1)) g n ma ld (.slice (some ⟨b, 0, none⟩) 1 cl) 1 (seq + 1) since 0 (.slice Av 1 cv) := blk_set HC7.out 4 _
    exact R_set (R_set HA7.out HC7.out (by intro q hq; simp [Kd.raw] at hq; subst hq; decide) 4 _) hC8 (by intro q hq; simp [Kd.raw] at hq; subst hq; decide) 6 _
  · exact (HK7.out.set_ 4 _).set_ 6 _
set_option maxHeartbeats 8000000 in
set_option maxRecDepth 100000 in
theorem told_open1 (w : World) (g : Nat) (n ma ld : Int) (b cl : Nat) (seq since silent : Int) (s : ByteArray) (id : Nat) (rid  st step ep : Nat) (A : Option Addr) (c : Nat)
    (H : Cli w g n ma ld (.slice (some ⟨b, 0, none⟩) 1 cl) 0 seq since silent (.slice none 0 0)) (hn : 0 ≤ n ∧ n ≤ 100) (sq : Nat) (hs : 0 ≤ seq ∧ seq ≤ 1000000) (hsq : (sq : Int) = 0) (hbg : b ≠ g) (hst : st = 1)
    (k0 : w.cell? ⟨b, 0, none⟩ = some (.int .i64 4)) (k1 : w.cell? ⟨b, 1, none⟩ = some (.string s)) (k2 : w.cell? ⟨b, 2, none⟩ = some (.int .i64 id)) :
    Calls Try.prog 107 #[.pointer (some ⟨g, 0, none⟩), .agg (toldC 3 (n + 1) sq 0 rid id st step ep (.slice A 0 c))] w fun e w' => e = .returned (.tuple #[]) ∧ Cli w' g n ma ld (.slice (some ⟨b, 0, none⟩) 1 cl) 0 seq since 0 (.slice none 0 0) ∧ KB w w' g := by
  have HH := Aside0.mk H
  subst hst
  simp only [toldC, hsq, show ((1 : Nat) : Int) = 1 from rfl,  show ((3 : Nat) : Int) = 3 from rfl, show ((0 : Nat) : Int) = 0 from rfl]
  have hlt : g < w.heap.size := blk_lt H
  have hlk : b < w.heap.size := World.block_lt_of_cell? _ _ k0
  clear H
  go_enter Try.func107, Try.ntmps107
  go_wp2_with fail
  have HB1 := Aside0.mk (below_alloc (Below.refl w.heap.size w) (.cells #[.int .i64 3, .int .i64 (n + 1), .int .i64 0, .int .i64 0, .int .i64 rid, .int .i64 id, .int .i64 1, .int .i64 step, .int .i64 ep, .int .i64 0, .int .i64 0, .int .i64 0, .slice A 0 c] 126))
  have HX1 := Aside0.mk (blk_new w (.cells #[.int .i64 3, .int .i64 (n + 1), .int .i64 0, .int .i64 0, .int .i64 rid, .int .i64 id, .int .i64 1, .int .i64 step, .int .i64 ep, .int .i64 0, .int .i64 0, .int .i64 0, .slice A 0 c] 126))
  have HC1 := Aside0.mk (show Cli (w.alloc (.cells #[.int .i64 3, .int .i64 (n + 1), .int .i64 0, .int .i64 0, .int .i64 rid, .int .i64 id, .int .i64 1, .int .i64 step, .int .i64 ep, .int .i64 0, .int .i64 0, .int .i64 0, .slice A 0 c] 126)) g n ma ld (.slice (some ⟨b, 0, none⟩) 1 cl) 0 seq since silent (.slice none 0 0) from blk_alloc HH.out _)
  have hz1 : (w.alloc (.cells #[.int .i64 3, .int .i64 (n + 1), .int .i64 0, .int .i64 0, .int .i64 rid, .int .i64 id, .int .i64 1, .int .i64 step, .int .i64 ep, .int .i64 0, .int .i64 0, .int .i64 0, .slice A 0 c] 126)).heap.size > w.heap.size := blk_lt HX1.out
  replace k0 := (HB1.out.cell hlk).trans k0
  replace k1 := (HB1.out.cell hlk).trans k1
  replace k2 := (HB1.out.cell hlk).trans k2
  generalize w.alloc (.cells #[.int .i64 3, .int .i64 (n + 1), .int .i64 0, .int .i64 0, .int .i64 rid, .int .i64 id, .int .i64 1, .int .i64 step, .int .i64 ep, .int .i64 0, .int .i64 0, .int .i64 0, .slice A 0 c] 126) = w1 at HB1 HX1 HC1 k0 k1 k2 hz1 ⊢
  refine (ask_result w1 g n ma ld b cl seq since silent _ s id HC1.out hn (by omega) k0 k1 k2).mono ?_
  rintro e w2 ⟨rfl, hb2⟩
  have HB2 := Aside0.mk (below_then HB1.out HB1.out.size hb2)
  have HX2 := Aside0.mk (blk_below HX1.out hb2)
  have HC2 := Aside0.mk (show Cli w2 g n ma ld (.slice (some ⟨b, 0, none⟩) 1 cl) 0 seq since silent (.slice none 0 0) from blk_below HC1.out hb2)
  replace k0 := (hb2.cell (show (⟨b, 0, none⟩ : Addr).block < w1.heap.size by show b < w1.heap.size; omega)).trans k0
  have hz2 : w.heap.size < w2.heap.size := by have := hb2.size; omega
  clear k1 k2 HB1 HX1 HC1 HH hz1 hb2
  have h3 := HC2.out.c3
  have h4 := HC2.out.c4
  have h5 := HC2.out.c5
  have hf5 := blk_frozen HC2.out 5
  have h7 := HC2.out.c7
  have hf7 := blk_frozen HC2.out 7
  have x0 : w2.cell? ⟨w.heap.size, 0, none⟩ = some (.int .i64 3) := (blk_cell HX2.out 0).trans rfl
  have x1 : w2.cell? ⟨w.heap.size, 1, none⟩ = some (.int .i64 (n + 1)) := (blk_cell HX2.out 1).trans rfl
  have x2 : w2.cell? ⟨w.heap.size, 2, none⟩ = some (.int .i64 0) := (blk_cell HX2.out 2).trans rfl
  have x3 : w2.cell? ⟨w.heap.size, 3, none⟩ = some (.int .i64 0) := (blk_cell HX2.out 3).trans rfl
  have x4 : w2.cell? ⟨w.heap.size, 4, none⟩ = some (.int .i64 rid) := (blk_cell HX2.out 4).trans rfl
  have x5 : w2.cell? ⟨w.heap.size, 5, none⟩ = some (.int .i64 id) := (blk_cell HX2.out 5).trans rfl
  have x6 : w2.cell? ⟨w.heap.size, 6, none⟩ = some (.int .i64 1) := (blk_cell HX2.out 6).trans rfl
  have x7 : w2.cell? ⟨w.heap.size, 7, none⟩ = some (.int .i64 step) := (blk_cell HX2.out 7).trans rfl
  have x8 : w2.cell? ⟨w.heap.size, 8, none⟩ = some (.int .i64 ep) := (blk_cell HX2.out 8).trans rfl
  have x9 : w2.cell? ⟨w.heap.size, 9, none⟩ = some (.int .i64 0) := (blk_cell HX2.out 9).trans rfl
  have x10 : w2.cell? ⟨w.heap.size, 10, none⟩ = some (.int .i64 0) := (blk_cell HX2.out 10).trans rfl
  have x11 : w2.cell? ⟨w.heap.size, 11, none⟩ = some (.int .i64 0) := (blk_cell HX2.out 11).trans rfl
  have x12 : w2.cell? ⟨w.heap.size, 12, none⟩ = some (.slice A 0 c) := (blk_cell HX2.out 12).trans rfl
  have ng : (g = w2.heap.size) = False := eq_false (by omega)
  have nx : (w.heap.size = w2.heap.size) = False := eq_false (by omega)
  have nxg : (w.heap.size = g) = False := eq_false (by omega)
  have nk : (b = w2.heap.size) = False := eq_false (by omega)
  have hg2 : g < w2.heap.size := by omega
  have nbg : (b = g) = False := eq_false hbg
  have ngb : (g = b) = False := eq_false (Ne.symm hbg)
  go_wp2_with fail
  have HC3 := Aside0.mk (show Cli ((w2.setCell ⟨g, 7, none⟩ (.int .i64 0)).alloc (.cells #[.int .i64 3, .int .i64 (n + 1), .int .i64 0, .string ⟨#[]⟩, .int .i64 id] 179)) g n ma ld (.slice (some ⟨b, 0, none⟩) 1 cl) 0 seq since 0 (.slice none 0 0) from blk_alloc (blk_set HC2.out 7 (.int .i64 0)) (.cells #[.int .i64 3, .int .i64 (n + 1), .int .i64 0, .string ⟨#[]⟩, .int .i64 id] 179))
  have HX3 := Aside0.mk (show ((w2.setCell ⟨g, 7, none⟩ (.int .i64 0)).alloc (.cells #[.int .i64 3, .int .i64 (n + 1), .int .i64 0, .string ⟨#[]⟩, .int .i64 id] 179)).heap[w.heap.size]? = some (.cells #[.int .i64 3, .int .i64 (n + 1), .int .i64 0, .int .i64 0, .int .i64 rid, .int .i64 id, .int .i64 1, .int .i64 step, .int .i64 ep, .int .i64 0, .int .i64 0, .int .i64 0, .slice A 0 c] 126 (0, 0)) from blk_alloc (blk_far HX2.out (by show w.heap.size ≠ g; omega) (.int .i64 0)) (.cells #[.int .i64 3, .int .i64 (n + 1), .int .i64 0, .string ⟨#[]⟩, .int .i64 id] 179))
  have HK3 := Aside0.mk (show KB w ((w2.setCell ⟨g, 7, none⟩ (.int .i64 0)).alloc (.cells #[.int .i64 3, .int .i64 (n + 1), .int .i64 0, .string ⟨#[]⟩, .int .i64 id] 179)) g from kb_alloc ((KB.of_below HB2.out g).set_ 7 (.int .i64 0)) (.cells #[.int .i64 3, .int .i64 (n + 1), .int .i64 0, .string ⟨#[]⟩, .int .i64 id] 179))
  have hkk : KB w2 ((w2.setCell ⟨g, 7, none⟩ (.int .i64 0)).alloc (.cells #[.int .i64 3, .int .i64 (n + 1), .int .i64 0, .string ⟨#[]⟩, .int .i64 id] 179)) g := kb_alloc ((KB.refl w2 g).set_ 7 (.int .i64 0)) (.cells #[.int .i64 3, .int .i64 (n + 1), .int .i64 0, .string ⟨#[]⟩, .int .i64 id] 179)
  have k3 : ((w2.setCell ⟨g, 7, none⟩ (.int .i64 0)).alloc (.cells #[.int .i64 3, .int .i64 (n + 1), .int .i64 0, .string ⟨#[]⟩, .int .i64 id] 179)).cell? ⟨b, 0, none⟩ = some (.int .i64 4) := (World.cell?_of_block (hkk.blk b (World.block_lt_of_cell? _ _ k0) hbg)).trans k0
  have g3 := HC3.out.c3
  have g4 := HC3.out.c4
  have hz3 : w.heap.size < ((w2.setCell ⟨g, 7, none⟩ (.int .i64 0)).alloc (.cells #[.int .i64 3, .int .i64 (n + 1), .int .i64 0, .string ⟨#[]⟩, .int .i64 id] 179)).heap.size := blk_lt HX3.out
  clear hkk HB2 HX2 HC2 k0 hz2 h3 h4 h5 hf5 h7 hf7 ng nx nk hg2 x0 x1 x2 x3 x4 x5 x6 x7 x8 x9 x10 x11 x12
  generalize ((w2.setCell ⟨g, 7, none⟩ (.int .i64 0)).alloc (.cells #[.int .i64 3, .int .i64 (n + 1), .int .i64 0, .string ⟨#[]⟩, .int .i64 id] 179)) = w2b at HC3 HX3 HK3 k3 g3 g4 hz3 ⊢
  go_quiet (fail)
  go_wp2_with fail
  refine bodyPost_ret (results_none rfl _ _ _) rfl ⟨rfl, HC3.out, HK3.out.drewN nq⟩
set_option maxHeartbeats 8000000 in
set_option maxRecDepth 100000 in
theorem told_open2 (w : World) (g : Nat) (n ma ld : Int) (b cl : Nat) (seq since silent : Int) (s : ByteArray) (id : Nat) (rid  st step ep : Nat) (A : Option Addr) (c : Nat)
    (H : Cli w g n ma ld (.slice (some ⟨b, 0, none⟩) 1 cl) 0 seq since silent (.slice none 0 0)) (hn : 0 ≤ n ∧ n ≤ 100) (sq : Nat) (hs : 0 ≤ seq ∧ seq ≤ 1000000) (hsq : (sq : Int) = 0) (hbg : b ≠ g) (hst : st = 2)
    (k0 : w.cell? ⟨b, 0, none⟩ = some (.int .i64 4)) (k1 : w.cell? ⟨b, 1, none⟩ = some (.string s)) (k2 : w.cell? ⟨b, 2, none⟩ = some (.int .i64 id)) :
    Calls Try.prog 107 #[.pointer (some ⟨g, 0, none⟩), .agg (toldC 3 (n + 1) sq 0 rid id st step ep (.slice A 0 c))] w fun e w' => e = .returned (.tuple #[]) ∧ Cli w' g n ma ld (.slice (some ⟨b, 0, none⟩) 1 cl) 0 seq since 0 (.slice none 0 0) ∧ KB w w' g := by
  have HH := Aside0.mk H
  subst hst
  simp only [toldC, hsq, show ((2 : Nat) : Int) = 2 from rfl,  show ((3 : Nat) : Int) = 3 from rfl, show ((0 : Nat) : Int) = 0 from rfl]
  have hlt : g < w.heap.size := blk_lt H
  have hlk : b < w.heap.size := World.block_lt_of_cell? _ _ k0
  clear H
  go_enter Try.func107, Try.ntmps107
  go_wp2_with fail
  have HB1 := Aside0.mk (below_alloc (Below.refl w.heap.size w) (.cells #[.int .i64 3, .int .i64 (n + 1), .int .i64 0, .int .i64 0, .int .i64 rid, .int .i64 id, .int .i64 2, .int .i64 step, .int .i64 ep, .int .i64 0, .int .i64 0, .int .i64 0, .slice A 0 c] 126))
  have HX1 := Aside0.mk (blk_new w (.cells #[.int .i64 3, .int .i64 (n + 1), .int .i64 0, .int .i64 0, .int .i64 rid, .int .i64 id, .int .i64 2, .int .i64 step, .int .i64 ep, .int .i64 0, .int .i64 0, .int .i64 0, .slice A 0 c] 126))
  have HC1 := Aside0.mk (show Cli (w.alloc (.cells #[.int .i64 3, .int .i64 (n + 1), .int .i64 0, .int .i64 0, .int .i64 rid, .int .i64 id, .int .i64 2, .int .i64 step, .int .i64 ep, .int .i64 0, .int .i64 0, .int .i64 0, .slice A 0 c] 126)) g n ma ld (.slice (some ⟨b, 0, none⟩) 1 cl) 0 seq since silent (.slice none 0 0) from blk_alloc HH.out _)
  have hz1 : (w.alloc (.cells #[.int .i64 3, .int .i64 (n + 1), .int .i64 0, .int .i64 0, .int .i64 rid, .int .i64 id, .int .i64 2, .int .i64 step, .int .i64 ep, .int .i64 0, .int .i64 0, .int .i64 0, .slice A 0 c] 126)).heap.size > w.heap.size := blk_lt HX1.out
  replace k0 := (HB1.out.cell hlk).trans k0
  replace k1 := (HB1.out.cell hlk).trans k1
  replace k2 := (HB1.out.cell hlk).trans k2
  generalize w.alloc (.cells #[.int .i64 3, .int .i64 (n + 1), .int .i64 0, .int .i64 0, .int .i64 rid, .int .i64 id, .int .i64 2, .int .i64 step, .int .i64 ep, .int .i64 0, .int .i64 0, .int .i64 0, .slice A 0 c] 126) = w1 at HB1 HX1 HC1 k0 k1 k2 hz1 ⊢
  refine (ask_result w1 g n ma ld b cl seq since silent _ s id HC1.out hn (by omega) k0 k1 k2).mono ?_
  rintro e w2 ⟨rfl, hb2⟩
  have HB2 := Aside0.mk (below_then HB1.out HB1.out.size hb2)
  have HX2 := Aside0.mk (blk_below HX1.out hb2)
  have HC2 := Aside0.mk (show Cli w2 g n ma ld (.slice (some ⟨b, 0, none⟩) 1 cl) 0 seq since silent (.slice none 0 0) from blk_below HC1.out hb2)
  replace k0 := (hb2.cell (show (⟨b, 0, none⟩ : Addr).block < w1.heap.size by show b < w1.heap.size; omega)).trans k0
  have hz2 : w.heap.size < w2.heap.size := by have := hb2.size; omega
  clear k1 k2 HB1 HX1 HC1 HH hz1 hb2
  have h3 := HC2.out.c3
  have h4 := HC2.out.c4
  have h5 := HC2.out.c5
  have hf5 := blk_frozen HC2.out 5
  have h7 := HC2.out.c7
  have hf7 := blk_frozen HC2.out 7
  have x0 : w2.cell? ⟨w.heap.size, 0, none⟩ = some (.int .i64 3) := (blk_cell HX2.out 0).trans rfl
  have x1 : w2.cell? ⟨w.heap.size, 1, none⟩ = some (.int .i64 (n + 1)) := (blk_cell HX2.out 1).trans rfl
  have x2 : w2.cell? ⟨w.heap.size, 2, none⟩ = some (.int .i64 0) := (blk_cell HX2.out 2).trans rfl
  have x3 : w2.cell? ⟨w.heap.size, 3, none⟩ = some (.int .i64 0) := (blk_cell HX2.out 3).trans rfl
  have x4 : w2.cell? ⟨w.heap.size, 4, none⟩ = some (.int .i64 rid) := (blk_cell HX2.out 4).trans rfl
  have x5 : w2.cell? ⟨w.heap.size, 5, none⟩ = some (.int .i64 id) := (blk_cell HX2.out 5).trans rfl
  have x6 : w2.cell? ⟨w.heap.size, 6, none⟩ = some (.int .i64 2) := (blk_cell HX2.out 6).trans rfl
  have x7 : w2.cell? ⟨w.heap.size, 7, none⟩ = some (.int .i64 step) := (blk_cell HX2.out 7).trans rfl
  have x8 : w2.cell? ⟨w.heap.size, 8, none⟩ = some (.int .i64 ep) := (blk_cell HX2.out 8).trans rfl
  have x9 : w2.cell? ⟨w.heap.size, 9, none⟩ = some (.int .i64 0) := (blk_cell HX2.out 9).trans rfl
  have x10 : w2.cell? ⟨w.heap.size, 10, none⟩ = some (.int .i64 0) := (blk_cell HX2.out 10).trans rfl
  have x11 : w2.cell? ⟨w.heap.size, 11, none⟩ = some (.int .i64 0) := (blk_cell HX2.out 11).trans rfl
  have x12 : w2.cell? ⟨w.heap.size, 12, none⟩ = some (.slice A 0 c) := (blk_cell HX2.out 12).trans rfl
  have ng : (g = w2.heap.size) = False := eq_false (by omega)
  have nx : (w.heap.size = w2.heap.size) = False := eq_false (by omega)
  have nxg : (w.heap.size = g) = False := eq_false (by omega)
  have nk : (b = w2.heap.size) = False := eq_false (by omega)
  have hg2 : g < w2.heap.size := by omega
  have nbg : (b = g) = False := eq_false hbg
  have ngb : (g = b) = False := eq_false (Ne.symm hbg)
  go_wp2_with fail
  have HC3 := Aside0.mk (show Cli ((w2.setCell ⟨g, 7, none⟩ (.int .i64 0)).alloc (.cells #[.int .i64 3, .int .i64 (n + 1), .int .i64 0, .string ⟨#[]⟩, .int .i64 id] 179)) g n ma ld (.slice (some ⟨b, 0, none⟩) 1 cl) 0 seq since 0 (.slice none 0 0) from blk_alloc (blk_set HC2.out 7 (.int .i64 0)) (.cells #[.int .i64 3, .int .i64 (n + 1), .int .i64 0, .string ⟨#[]⟩, .int .i64 id] 179))
  have HX3 := Aside0.mk (show ((w2.setCell ⟨g, 7, none⟩ (.int .i64 0)).alloc (.cells #[.int .i64 3, .int .i64 (n + 1), .int .i64 0, .string ⟨#[]⟩, .int .i64 id] 179)).heap[w.heap.size]? = some (.cells #[.int .i64 3, .int .i64 (n + 1), .int .i64 0, .int .i64 0, .int .i64 rid, .int .i64 id, .int .i64 2, .int .i64 step, .int .i64 ep, .int .i64 0, .int .i64 0, .int .i64 0, .slice A 0 c] 126 (0, 0)) from blk_alloc (blk_far HX2.out (by show w.heap.size ≠ g; omega) (.int .i64 0)) (.cells #[.int .i64 3, .int .i64 (n + 1), .int .i64 0, .string ⟨#[]⟩, .int .i64 id] 179))
  have HK3 := Aside0.mk (show KB w ((w2.setCell ⟨g, 7, none⟩ (.int .i64 0)).alloc (.cells #[.int .i64 3, .int .i64 (n + 1), .int .i64 0, .string ⟨#[]⟩, .int .i64 id] 179)) g from kb_alloc ((KB.of_below HB2.out g).set_ 7 (.int .i64 0)) (.cells #[.int .i64 3, .int .i64 (n + 1), .int .i64 0, .string ⟨#[]⟩, .int .i64 id] 179))
  have hkk : KB w2 ((w2.setCell ⟨g, 7, none⟩ (.int .i64 0)).alloc (.cells #[.int .i64 3, .int .i64 (n + 1), .int .i64 0, .string ⟨#[]⟩, .int .i64 id] 179)) g := kb_alloc ((KB.refl w2 g).set_ 7 (.int .i64 0)) (.cells #[.int .i64 3, .int .i64 (n + 1), .int .i64 0, .string ⟨#[]⟩, .int .i64 id] 179)
  have k3 : ((w2.setCell ⟨g, 7, none⟩ (.int .i64 0)).alloc (.cells #[.int .i64 3, .int .i64 (n + 1), .int .i64 0, .string ⟨#[]⟩, .int .i64 id] 179)).cell? ⟨b, 0, none⟩ = some (.int .i64 4) := (World.cell?_of_block (hkk.blk b (World.block_lt_of_cell? _ _ k0) hbg)).trans k0
  have g3 := HC3.out.c3
  have g4 := HC3.out.c4
  have hz3 : w.heap.size < ((w2.setCell ⟨g, 7, none⟩ (.int .i64 0)).alloc (.cells #[.int .i64 3, .int .i64 (n + 1), .int .i64 0, .string ⟨#[]⟩, .int .i64 id] 179)).heap.size := blk_lt HX3.out
  clear hkk HB2 HX2 HC2 k0 hz2 h3 h4 h5 hf5 h7 hf7 ng nx nk hg2 x0 x1 x2 x3 x4 x5 x6 x7 x8 x9 x10 x11 x12
  generalize ((w2.setCell ⟨g, 7, none⟩ (.int .i64 0)).alloc (.cells #[.int .i64 3, .int .i64 (n + 1), .int .i64 0, .string ⟨#[]⟩, .int .i64 id] 179)) = w2b at HC3 HX3 HK3 k3 g3 g4 hz3 ⊢
  go_quiet (fail)
  go_wp2_with fail
  refine bodyPost_ret (results_none rfl _ _ _) rfl ⟨rfl, HC3.out, HK3.out.drewN nq⟩
set_option maxHeartbeats 8000000 in
set_option maxRecDepth 100000 in
theorem told_ended (w : World) (g : Nat) (n ma ld : Int) (b cl : Nat) (seq since silent : Int) (s : ByteArray) (id : Nat) (rid  st step ep : Nat) (A : Option Addr) (c : Nat)
    (H : Cli w g n ma ld (.slice (some ⟨b, 0, none⟩) 1 cl) 0 seq since silent (.slice none 0 0)) (hn : 0 ≤ n ∧ n ≤ 100) (sq : Nat) (hs : 0 ≤ seq ∧ seq ≤ 1000000) (hsq : (sq : Int) = 0) (hbg : b ≠ g) (hst : 3 ≤ st)
    (k0 : w.cell? ⟨b, 0, none⟩ = some (.int .i64 4)) (k1 : w.cell? ⟨b, 1, none⟩ = some (.string s)) (k2 : w.cell? ⟨b, 2, none⟩ = some (.int .i64 id)) :
    Calls Try.prog 107 #[.pointer (some ⟨g, 0, none⟩), .agg (toldC 3 (n + 1) sq 0 rid id st step ep (.slice A 0 c))] w fun e w' => e = .returned (.tuple #[]) ∧ ∃ Av cv, Cli w' g n ma ld (.slice (some ⟨b, 0, none⟩) 1 cl) 1 seq 0 0 (.slice Av 1 cv) ∧ Kd.R (Kd.raw 11) 130 w' w.heap.size (fun _ => True) (.slice Av 1 cv) [[.int .i64 0, .int .i64 0, .int .i64 rid, .int .i64 id, .int .i64 st, .int .i64 step, .int .i64 ep, .int .i64 0, .int .i64 0, .int .i64 0, .slice A 0 c]] ∧ KB w w' g := by
  have HH := Aside0.mk H
  simp only [toldC, hsq,  show ((3 : Nat) : Int) = 3 from rfl, show ((0 : Nat) : Int) = 0 from rfl]
  have hlt : g < w.heap.size := blk_lt H
  have hlk : b < w.heap.size := World.block_lt_of_cell? _ _ k0
  clear H
  have hst' := Aside0.mk hst
  clear hst
  go_enter Try.func107, Try.ntmps107
  go_wp2_with fail
  have HB1 := Aside0.mk (below_alloc (Below.refl w.heap.size w) (.cells #[.int .i64 3, .int .i64 (n + 1), .int .i64 0, .int .i64 0, .int .i64 rid, .int .i64 id, .int .i64 st, .int .i64 step, .int .i64 ep, .int .i64 0, .int .i64 0, .int .i64 0, .slice A 0 c] 126))
  have HX1 := Aside0.mk (blk_new w (.cells #[.int .i64 3, .int .i64 (n + 1), .int .i64 0, .int .i64 0, .int .i64 rid, .int .i64 id, .int .i64 st, .int .i64 step, .int .i64 ep, .int .i64 0, .int .i64 0, .int .i64 0, .slice A 0 c] 126))
  have HC1 := Aside0.mk (show Cli (w.alloc (.cells #[.int .i64 3, .int .i64 (n + 1), .int .i64 0, .int .i64 0, .int .i64 rid, .int .i64 id, .int .i64 st, .int .i64 step, .int .i64 ep, .int .i64 0, .int .i64 0, .int .i64 0, .slice A 0 c] 126)) g n ma ld (.slice (some ⟨b, 0, none⟩) 1 cl) 0 seq since silent (.slice none 0 0) from blk_alloc HH.out _)
  have hz1 : (w.alloc (.cells #[.int .i64 3, .int .i64 (n + 1), .int .i64 0, .int .i64 0, .int .i64 rid, .int .i64 id, .int .i64 st, .int .i64 step, .int .i64 ep, .int .i64 0, .int .i64 0, .int .i64 0, .slice A 0 c] 126)).heap.size > w.heap.size := blk_lt HX1.out
  replace k0 := (HB1.out.cell hlk).trans k0
  replace k1 := (HB1.out.cell hlk).trans k1
  replace k2 := (HB1.out.cell hlk).trans k2
  generalize w.alloc (.cells #[.int .i64 3, .int .i64 (n + 1), .int .i64 0, .int .i64 0, .int .i64 rid, .int .i64 id, .int .i64 st, .int .i64 step, .int .i64 ep, .int .i64 0, .int .i64 0, .int .i64 0, .slice A 0 c] 126) = w1 at HB1 HX1 HC1 k0 k1 k2 hz1 ⊢
  refine (ask_result w1 g n ma ld b cl seq since silent _ s id HC1.out hn (by omega) k0 k1 k2).mono ?_
  rintro e w2 ⟨rfl, hb2⟩
  have HB2 := Aside0.mk (below_then HB1.out HB1.out.size hb2)
  have HX2 := Aside0.mk (blk_below HX1.out hb2)
  have HC2 := Aside0.mk (show Cli w2 g n ma ld (.slice (some ⟨b, 0, none⟩) 1 cl) 0 seq since silent (.slice none 0 0) from blk_below HC1.out hb2)
  replace k0 := (hb2.cell (show (⟨b, 0, none⟩ : Addr).block < w1.heap.size by show b < w1.heap.size; omega)).trans k0
  have hz2 : w.heap.size < w2.heap.size := by have := hb2.size; omega
  clear k1 k2 HB1 HX1 HC1 HH hz1 hb2
  have h3 := HC2.out.c3
  have h4 := HC2.out.c4
  have h5 := HC2.out.c5
  have hf5 := blk_frozen HC2.out 5
  have h7 := HC2.out.c7
  have hf7 := blk_frozen HC2.out 7
  have x0 : w2.cell? ⟨w.heap.size, 0, none⟩ = some (.int .i64 3) := (blk_cell HX2.out 0).trans rfl
  have x1 : w2.cell? ⟨w.heap.size, 1, none⟩ = some (.int .i64 (n + 1)) := (blk_cell HX2.out 1).trans rfl
  have x2 : w2.cell? ⟨w.heap.size, 2, none⟩ = some (.int .i64 0) := (blk_cell HX2.out 2).trans rfl
  have x3 : w2.cell? ⟨w.heap.size, 3, none⟩ = some (.int .i64 0) := (blk_cell HX2.out 3).trans rfl
  have x4 : w2.cell? ⟨w.heap.size, 4, none⟩ = some (.int .i64 rid) := (blk_cell HX2.out 4).trans rfl
  have x5 : w2.cell? ⟨w.heap.size, 5, none⟩ = some (.int .i64 id) := (blk_cell HX2.out 5).trans rfl
  have x6 : w2.cell? ⟨w.heap.size, 6, none⟩ = some (.int .i64 st) := (blk_cell HX2.out 6).trans rfl
  have x7 : w2.cell? ⟨w.heap.size, 7, none⟩ = some (.int .i64 step) := (blk_cell HX2.out 7).trans rfl
  have x8 : w2.cell? ⟨w.heap.size, 8, none⟩ = some (.int .i64 ep) := (blk_cell HX2.out 8).trans rfl
  have x9 : w2.cell? ⟨w.heap.size, 9, none⟩ = some (.int .i64 0) := (blk_cell HX2.out 9).trans rfl
  have x10 : w2.cell? ⟨w.heap.size, 10, none⟩ = some (.int .i64 0) := (blk_cell HX2.out 10).trans rfl
  have x11 : w2.cell? ⟨w.heap.size, 11, none⟩ = some (.int .i64 0) := (blk_cell HX2.out 11).trans rfl
  have x12 : w2.cell? ⟨w.heap.size, 12, none⟩ = some (.slice A 0 c) := (blk_cell HX2.out 12).trans rfl
  have ng : (g = w2.heap.size) = False := eq_false (by omega)
  have nx : (w.heap.size = w2.heap.size) = False := eq_false (by omega)
  have nxg : (w.heap.size = g) = False := eq_false (by omega)
  have nk : (b = w2.heap.size) = False := eq_false (by omega)
  have hg2 : g < w2.heap.size := by omega
  have hst := hst'.out
  have nbg : (b = g) = False := eq_false hbg
  have ngb : (g = b) = False := eq_false (Ne.symm hbg)
  have e1 : ((st : Int) == 1) = false := beq_eq_false_iff_ne.2 (by omega)
  have e2 : ((st : Int) == 2) = false := beq_eq_false_iff_ne.2 (by omega)
  clear hst
  go_wp2_with fail
  have HC3 := Aside0.mk (show Cli ((w2.setCell ⟨g, 7, none⟩ (.int .i64 0)).alloc (.cells #[.int .i64 3, .int .i64 (n + 1), .int .i64 0, .string ⟨#[]⟩, .int .i64 id] 179)) g n ma ld (.slice (some ⟨b, 0, none⟩) 1 cl) 0 seq since 0 (.slice none 0 0) from blk_alloc (blk_set HC2.out 7 (.int .i64 0)) (.cells #[.int .i64 3, .int .i64 (n + 1), .int .i64 0, .string ⟨#[]⟩, .int .i64 id] 179))
  have HX3 := Aside0.mk (show ((w2.setCell ⟨g, 7, none⟩ (.int .i64 0)).alloc (.cells #[.int .i64 3, .int .i64 (n + 1), .int .i64 0, .string ⟨#[]⟩, .int .i64 id] 179)).heap[w.heap.size]? = some (.cells #[.int .i64 3, .int .i64 (n + 1), .int .i64 0, .int .i64 0, .int .i64 rid, .int .i64 id, .int .i64 st, .int .i64 step, .int .i64 ep, .int .i64 0, .int .i64 0, .int .i64 0, .slice A 0 c] 126 (0, 0)) from blk_alloc (blk_far HX2.out (by show w.heap.size ≠ g; omega) (.int .i64 0)) (.cells #[.int .i64 3, .int .i64 (n + 1), .int .i64 0, .string ⟨#[]⟩, .int .i64 id] 179))
  have HK3 := Aside0.mk (show KB w ((w2.setCell ⟨g, 7, none⟩ (.int .i64 0)).alloc (.cells #[.int .i64 3, .int .i64 (n + 1), .int .i64 0, .string ⟨#[]⟩, .int .i64 id] 179)) g from kb_alloc ((KB.of_below HB2.out g).set_ 7 (.int .i64 0)) (.cells #[.int .i64 3, .int .i64 (n + 1), .int .i64 0, .string ⟨#[]⟩, .int .i64 id] 179))
  have hkk : KB w2 ((w2.setCell ⟨g, 7, none⟩ (.int .i64 0)).alloc (.cells #[.int .i64 3, .int .i64 (n + 1), .int .i64 0, .string ⟨#[]⟩, .int .i64 id] 179)) g := kb_alloc ((KB.refl w2 g).set_ 7 (.int .i64 0)) (.cells #[.int .i64 3, .int .i64 (n + 1), .int .i64 0, .string ⟨#[]⟩, .int .i64 id] 179)
  have k3 : ((w2.setCell ⟨g, 7, none⟩ (.int .i64 0)).alloc (.cells #[.int .i64 3, .int .i64 (n + 1), .int .i64 0, .string ⟨#[]⟩, .int .i64 id] 179)).cell? ⟨b, 0, none⟩ = some (.int .i64 4) := (World.cell?_of_block (hkk.blk b (World.block_lt_of_cell? _ _ k0) hbg)).trans k0
  have g3 := HC3.out.c3
  have g4 := HC3.out.c4
  have hz3 : w.heap.size < ((w2.setCell ⟨g, 7, none⟩ (.int .i64 0)).alloc (.cells #[.int .i64 3, .int .i64 (n + 1), .int .i64 0, .string ⟨#[]⟩, .int .i64 id] 179)).heap.size := blk_lt HX3.out
  clear hkk HB2 HX2 HC2 k0 hz2 h3 h4 h5 hf5 h7 hf7 ng nx nk hg2 x0 x1 x2 x3 x4 x5 x6 x7 x8 x9 x10 x11 x12
  generalize ((w2.setCell ⟨g, 7, none⟩ (.int .i64 0)).alloc (.cells #[.int .i64 3, .int .i64 (n + 1), .int .i64 0, .string ⟨#[]⟩, .int .i64 id] 179)) = w2b at HC3 HX3 HK3 k3 g3 g4 hz3 ⊢
  go_quiet (fail)
  go_wp2_with fail
  have HC3' := Aside0.mk (show Cli (w2b.drewN nq) g n ma ld (.slice (some ⟨b, 0, none⟩) 1 cl) 0 seq since 0 (.slice none 0 0) from HC3.out)
  have HX3' := Aside0.mk (show (w2b.drewN nq).heap[w.heap.size]? = some (.cells #[.int .i64 3, .int .i64 (n + 1), .int .i64 0, .int .i64 0, .int .i64 rid, .int .i64 id, .int .i64 st, .int .i64 step, .int .i64 ep, .int .i64 0, .int .i64 0, .int .i64 0, .slice A 0 c] 126 (0, 0)) from HX3.out)
  have HK3' := Aside0.mk (HK3.out.drewN nq)
  have hz3' : w.heap.size < (w2b.drewN nq).heap.size := hz3
  clear HC3 HX3 HK3 hz3 k3 g3 g4
  have HC3 := HC3'
  have HX3 := HX3'
  have HK3 := HK3'
  have hz3 := hz3'
  clear HC3' HX3' HK3' hz3'
  generalize w2b.drewN nq = w3 at HC3 HX3 HK3 hz3 ⊢
  trace_state
  have HC4 := Aside0.mk (show Cli w3.drew g n ma ld (.slice (some ⟨b, 0, none⟩) 1 cl) 0 seq since 0 (.slice none 0 0) from blk_drew HC3.out)
  have HX4 := Aside0.mk (show w3.drew.heap[w.heap.size]? = some (.cells #[.int .i64 3, .int .i64 (n + 1), .int .i64 0, .int .i64 0, .int .i64 rid, .int .i64 id, .int .i64 st, .int .i64 step, .int .i64 ep, .int .i64 0, .int .i64 0, .int .i64 0, .slice A 0 c] 126 (0, 0)) from blk_drew HX3.out)
  have HK4 := Aside0.mk HK3.out.drew
  have hz4 : w.heap.size < w3.drew.heap.size := hz3
  clear HC3 HX3 HK3 hz3
  refine start_ (n := 19) (S := fun w' => w'.cell? ⟨g, 8, none⟩ = some (.slice none 0 0) ∧ w'.cell? ⟨g, 4, none⟩ = some (.int .i64 0) ∧ w'.cell? ⟨w.heap.size, 3, none⟩ = some (.int .i64 0) ∧ w'.cell? ⟨w.heap.size, 4, none⟩ = some (.int .i64 rid) ∧ w'.cell? ⟨w.heap.size, 5, none⟩ = some (.int .i64 id) ∧ w'.cell? ⟨w.heap.size, 6, none⟩ = some (.int .i64 st) ∧ w'.cell? ⟨w.heap.size, 7, none⟩ = some (.int .i64 step) ∧ w'.cell? ⟨w.heap.size, 8, none⟩ = some (.int .i64 ep) ∧ w'.cell? ⟨w.heap.size, 9, none⟩ = some (.int .i64 0) ∧ w'.cell? ⟨w.heap.size, 10, none⟩ = some (.int .i64 0) ∧ w'.cell? ⟨w.heap.size, 11, none⟩ = some (.int .i64 0) ∧ w'.cell? ⟨w.heap.size, 12, none⟩ = some (.slice A 0 c)) (ds := [18]) #[false, false, false, false, false, false, false, false, false, false, false, false, false, false, false, false, false, false, false] (by kernel_rfl) rfl rfl (⟨HC4.out.c8, HC4.out.c4, (blk_cell HX4.out 3).trans rfl, (blk_cell HX4.out 4).trans rfl, (blk_cell HX4.out 5).trans rfl, (blk_cell HX4.out 6).trans rfl, (blk_cell HX4.out 7).trans rfl, (blk_cell HX4.out 8).trans rfl, (blk_cell HX4.out 9).trans rfl, (blk_cell HX4.out 10).trans rfl, (blk_cell HX4.out 11).trans rfl, (blk_cell HX4.out 12).trans rfl⟩) (fun hHeld => ?_)
  refine with_tabW tab10 bits10 (fun HT_ HW_ => ?_)
  generalize w3.drew = w4 at HC4 HX4 HK4 hz4 hHeld ⊢
  refine pure_ (i := 0) (N := some 93) (v := ?_) (a' := ?_) #[true, false, false, false, false, false, false, false, false, false, false, false, false, false, false, false, false, false, false] rfl rfl (any_of HT_.out (by kernel_rfl)) (fun _ _ _ h => h) (Or.inl ⟨by rfl, ?_⟩) ?_ ?_
  rotate_left
  · intro w'
    go_simp
    with_reducible rfl
  rotate_left
  · simp only [Act.put, List.setIfInBounds_toArray, List.set_cons_zero, List.set_cons_succ, i64_w, i32_w]
    rfl
  refine pure_ (i := 1) (N := some 94) (v := ?_) (a' := ?_) #[true, true, false, false, false, false, false, false, false, false, false, false, false, false, false, false, false, false, false] rfl rfl (any_of HT_.out (by kernel_rfl)) (fun _ _ _ h => h) (Or.inl ⟨by rfl, ?_⟩) ?_ ?_
  rotate_left
  · intro w'
    go_simp
    with_reducible rfl
  rotate_left
  · simp only [Act.put, List.setIfInBounds_toArray, List.set_cons_zero, List.set_cons_succ, i64_w, i32_w]
    rfl
  refine pure_ (i := 2) (N := some 95) (v := ?_) (a' := ?_) #[true, true, true, false, false, false, false, false, false, false, false, false, false, false, false, false, false, false, false] rfl rfl (any_of HT_.out (by kernel_rfl)) (fun _ _ _ h => h) (Or.inl ⟨by rfl, ?_⟩) ?_ ?_
  rotate_left
  · intro w'
    go_simp
    with_reducible rfl
  rotate_left
  · simp only [Act.put, List.setIfInBounds_toArray, List.set_cons_zero, List.set_cons_succ, i64_w, i32_w]
    rfl
  refine pure_ (i := 3) (N := some 96) (v := ?_) (a' := ?_) #[true, true, true, true, false, false, false, false, false, false, false, false, false, false, false, false, false, false, false] rfl rfl (any_of HT_.out (by kernel_rfl)) (fun _ _ _ h => h) (Or.inl ⟨by rfl, ?_⟩) ?_ ?_
  rotate_left
  · intro w'
    go_simp
    with_reducible rfl
  rotate_left
  · simp only [Act.put, List.setIfInBounds_toArray, List.set_cons_zero, List.set_cons_succ, i64_w, i32_w]
    rfl
  refine take_ (i := 4) (N := some 97) (v := ?_) (a' := ?_) #[true, true, true, true, true, false, false, false, false, false, false, false, false, false, false, false, false, false, false] rfl rfl (take_ofW HT_.out HW_.out (by kernel_rfl)) (fun _ _ _ h => h) (Or.inl ⟨by rfl, ?_⟩) hHeld ?_ ?_
  rotate_left
  · intro w' s0
    go_simp
    with_reducible rfl
  rotate_left
  · simp only [Act.put, List.setIfInBounds_toArray, List.set_cons_zero, List.set_cons_succ, i64_w, i32_w]
    rfl
  refine pure_ (i := 5) (N := some 98) (v := ?_) (a' := ?_) #[true, true, true, true, true, true, false, false, false, false, false, false, false, false, false, false, false, false, false] rfl rfl (any_of HT_.out (by kernel_rfl)) (fun _ _ _ h => h) (Or.inl ⟨by rfl, ?_⟩) ?_ ?_
  rotate_left
  · intro w'
    go_simp
    with_reducible rfl
  rotate_left
  · simp only [Act.put, List.setIfInBounds_toArray, List.set_cons_zero, List.set_cons_succ, i64_w, i32_w]
    rfl
  refine pure_ (i := 6) (N := some 99) (v := ?_) (a' := ?_) #[true, true, true, true, true, true, true, false, false, false, false, false, false, false, false, false, false, false, false] rfl rfl (any_of HT_.out (by kernel_rfl)) (fun _ _ _ h => h) (Or.inl ⟨by rfl, ?_⟩) ?_ ?_
  rotate_left
  · intro w'
    go_simp
    with_reducible rfl
  rotate_left
  · simp only [Act.put, List.setIfInBounds_toArray, List.set_cons_zero, List.set_cons_succ, i64_w, i32_w]
    rfl
  refine pure_ (i := 7) (N := some 100) (v := ?_) (a' := ?_) #[true, true, true, true, true, true, true, true, false, false, false, false, false, false, false, false, false, false, false] rfl rfl (any_of HT_.out (by kernel_rfl)) (fun _ _ _ h => h) (Or.inl ⟨by rfl, ?_⟩) ?_ ?_
  rotate_left
  · intro w'
    go_simp
    with_reducible rfl
  rotate_left
  · simp only [Act.put, List.setIfInBounds_toArray, List.set_cons_zero, List.set_cons_succ, i64_w, i32_w]
    rfl
  refine take_ (i := 8) (N := some 101) (v := ?_) (a' := ?_) #[true, true, true, true, true, true, true, true, true, false, false, false, false, false, false, false, false, false, false] rfl rfl (take_ofW HT_.out HW_.out (by kernel_rfl)) (fun _ _ _ h => h) (Or.inl ⟨by rfl, ?_⟩) hHeld ?_ ?_
  rotate_left
  · intro w' s0
    go_simp
    with_reducible rfl
  rotate_left
  · simp only [Act.put, List.setIfInBounds_toArray, List.set_cons_zero, List.set_cons_succ, i64_w, i32_w]
    rfl
  refine pure_ (i := 9) (N := some 102) (v := ?_) (a' := ?_) #[true, true, true, true, true, true, true, true, true, true, false, false, false, false, false, false, false, false, false] rfl rfl (any_of HT_.out (by kernel_rfl)) (fun _ _ _ h => h) (Or.inl ⟨by rfl, ?_⟩) ?_ ?_
  rotate_left
  · intro w'
    go_simp
    with_reducible rfl
  rotate_left
  · simp only [Act.put, List.setIfInBounds_toArray, List.set_cons_zero, List.set_cons_succ, i64_w, i32_w]
    rfl
  refine take_ (i := 10) (N := some 103) (v := ?_) (a' := ?_) #[true, true, true, true, true, true, true, true, true, true, true, false, false, false, false, false, false, false, false] rfl rfl (take_ofW HT_.out HW_.out (by kernel_rfl)) (fun _ _ _ h => h) (Or.inl ⟨by rfl, ?_⟩) hHeld ?_ ?_
  rotate_left
  · intro w' s0
    go_simp
    with_reducible rfl
  rotate_left
  · simp only [Act.put, List.setIfInBounds_toArray, List.set_cons_zero, List.set_cons_succ, i64_w, i32_w]
    rfl
  refine pure_ (i := 11) (N := some 104) (v := ?_) (a' := ?_) #[true, true, true, true, true, true, true, true, true, true, true, true, false, false, false, false, false, false, false] rfl rfl (any_of HT_.out (by kernel_rfl)) (fun _ _ _ h => h) (Or.inl ⟨by rfl, ?_⟩) ?_ ?_
  rotate_left
  · intro w'
    go_simp
    with_reducible rfl
  rotate_left
  · simp only [Act.put, List.setIfInBounds_toArray, List.set_cons_zero, List.set_cons_succ, i64_w, i32_w]
    rfl
  refine take_ (i := 12) (N := some 105) (v := ?_) (a' := ?_) #[true, true, true, true, true, true, true, true, true, true, true, true, true, false, false, false, false, false, false] rfl rfl (take_ofW HT_.out HW_.out (by kernel_rfl)) (fun _ _ _ h => h) (Or.inl ⟨by rfl, ?_⟩) hHeld ?_ ?_
  rotate_left
  · intro w' s0
    go_simp
    with_reducible rfl
  rotate_left
  · simp only [Act.put, List.setIfInBounds_toArray, List.set_cons_zero, List.set_cons_succ, i64_w, i32_w]
    rfl
  refine pure_ (i := 13) (N := some 106) (v := ?_) (a' := ?_) #[true, true, true, true, true, true, true, true, true, true, true, true, true, true, false, false, false, false, false] rfl rfl (any_of HT_.out (by kernel_rfl)) (fun _ _ _ h => h) (Or.inl ⟨by rfl, ?_⟩) ?_ ?_
  rotate_left
  · intro w'
    go_simp
    with_reducible rfl
  rotate_left
  · simp only [Act.put, List.setIfInBounds_toArray, List.set_cons_zero, List.set_cons_succ, i64_w, i32_w]
    rfl
  refine one_ (i := 14) (N := some 107) #[true, true, true, true, true, true, true, true, true, true, true, true, true, true, true, false, false, false, false] rfl rfl (one_of HT_.out (by kernel_rfl)) (by decide) (fun K hK => ?_)
  refine value_ (w1 := ?_) (v := ?_) (by rfl) rfl ?_ ?_
  rotate_left 2
  · go_simp
    constructor
    · rfl
    · rfl
  have HC5 := Aside0.mk (show Cli (w4.alloc (.cells #[.int .i64 0, .int .i64 0, .int .i64 rid, .int .i64 id, .int .i64 st, .int .i64 step, .int .i64 ep, .int .i64 0, .int .i64 0, .int .i64 0, .slice A 0 c] 130)) g n ma ld (.slice (some ⟨b, 0, none⟩) 1 cl) 0 seq since 0 (.slice none 0 0) from blk_alloc HC4.out _)
  have HX5 := Aside0.mk (show (w4.alloc (.cells #[.int .i64 0, .int .i64 0, .int .i64 rid, .int .i64 id, .int .i64 st, .int .i64 step, .int .i64 ep, .int .i64 0, .int .i64 0, .int .i64 0, .slice A 0 c] 130)).heap[w.heap.size]? = some (.cells #[.int .i64 3, .int .i64 (n + 1), .int .i64 0, .int .i64 0, .int .i64 rid, .int .i64 id, .int .i64 st, .int .i64 step, .int .i64 ep, .int .i64 0, .int .i64 0, .int .i64 0, .slice A 0 c] 126 (0, 0)) from blk_alloc HX4.out _)
  have HK5 := Aside0.mk (kb_alloc HK4.out (.cells #[.int .i64 0, .int .i64 0, .int .i64 rid, .int .i64 id, .int .i64 st, .int .i64 step, .int .i64 ep, .int .i64 0, .int .i64 0, .int .i64 0, .slice A 0 c] 130))
  have HG5 := Aside0.mk (blk_new w4 (.cells #[.int .i64 0, .int .i64 0, .int .i64 rid, .int .i64 id, .int .i64 st, .int .i64 step, .int .i64 ep, .int .i64 0, .int .i64 0, .int .i64 0, .slice A 0 c] 130))
  refine hK.out _ _ (⟨HC5.out.c8, HC5.out.c4, (blk_cell HX5.out 3).trans rfl, (blk_cell HX5.out 4).trans rfl, (blk_cell HX5.out 5).trans rfl, (blk_cell HX5.out 6).trans rfl, (blk_cell HX5.out 7).trans rfl, (blk_cell HX5.out 8).trans rfl, (blk_cell HX5.out 9).trans rfl, (blk_cell HX5.out 10).trans rfl, (blk_cell HX5.out 11).trans rfl, (blk_cell HX5.out 12).trans rfl⟩) (fun hHeld => ?_)
  clear hK K
  refine norm_ (a' := ?_) ?_ ?_
  rotate_left
  · show Act.put _ (some 107) _ = _
    simp only [Act.put, List.setIfInBounds_toArray, List.set_cons_zero, List.set_cons_succ, i64_w, i32_w]
    rfl
  generalize (w4.alloc (.cells #[.int .i64 0, .int .i64 0, .int .i64 rid, .int .i64 id, .int .i64 st, .int .i64 step, .int .i64 ep, .int .i64 0, .int .i64 0, .int .i64 0, .slice A 0 c] 130)) = w5 at HC5 HX5 HK5 HG5 hHeld ⊢
  refine one_ (i := 15) (N := some 108) #[true, true, true, true, true, true, true, true, true, true, true, true, true, true, true, true, false, false, false] rfl rfl (one_of HT_.out (by kernel_rfl)) (by decide) (fun K hK => ?_)
  refine step_append_at (Kd.raw 11) w.heap.size (by rfl) (.tmp 97) (.tmp 107) 127 130 (.agg #[(.int .i64 0), (.int .i64 0), (.int .i64 0), (.int .i64 0), (.int .i64 0), (.int .i64 0), (.int .i64 0), (.int .i64 0), (.int .i64 0), (.int .i64 0), (.slice none 0 0)]) 104 rfl Try.underlying127 info130 rfl (by decide) (by omega) (.slice none 0 0) [] [.int .i64 0, .int .i64 0, .int .i64 rid, .int .i64 id, .int .i64 st, .int .i64 step, .int .i64 ep, .int .i64 0, .int .i64 0, .int .i64 0, .slice A 0 c] _ rfl w4.heap.size rfl HG5.out ⟨rfl, rfl, by intro u hu; simp at hu; rcases hu with rfl | rfl | rfl | rfl | rfl | rfl | rfl | rfl | rfl | rfl | rfl <;> rfl⟩ (Kd.R_nil _ _ _ _ _) HK5.out.size (by decide) ?_
  intro v1 w6 hA hg
  have hn0 : (Value.slice none 0 0).ownBlock = none := rfl
  rw [hn0] at hg
  have HC6 := Aside0.mk (show Cli w6 g n ma ld (.slice (some ⟨b, 0, none⟩) 1 cl) 0 seq since 0 (.slice none 0 0) from blk_grown HC5.out hg (by simp))
  have HX6 := Aside0.mk (show w6.heap[w.heap.size]? = some (.cells #[.int .i64 3, .int .i64 (n + 1), .int .i64 0, .int .i64 0, .int .i64 rid, .int .i64 id, .int .i64 st, .int .i64 step, .int .i64 ep, .int .i64 0, .int .i64 0, .int .i64 0, .slice A 0 c] 126 (0, 0)) from blk_grown HX5.out hg (by simp))
  have HK6 := Aside0.mk (HK5.out.trans (KB.of_grown hg g))
  rw [List.nil_append] at hA
  obtain ⟨Av, cv, hav⟩ := Kd.R_slice hA
  simp only [List.length_cons, List.length_nil, Nat.zero_add] at hav
  subst hav
  have HA6 := Aside0.mk hA
  clear hg hA hn0 HC5 HX5 HK5 HG5
  refine hK.out _ _ (⟨HC6.out.c8, HC6.out.c4, (blk_cell HX6.out 3).trans rfl, (blk_cell HX6.out 4).trans rfl, (blk_cell HX6.out 5).trans rfl, (blk_cell HX6.out 6).trans rfl, (blk_cell HX6.out 7).trans rfl, (blk_cell HX6.out 8).trans rfl, (blk_cell HX6.out 9).trans rfl, (blk_cell HX6.out 10).trans rfl, (blk_cell HX6.out 11).trans rfl, (blk_cell HX6.out 12).trans rfl⟩) (fun hHeld => ?_)
  clear hK K
  refine norm_ (a' := ?_) ?_ ?_
  rotate_left
  · show Act.put _ (some 108) _ = _
    simp only [Act.put, List.setIfInBounds_toArray, List.set_cons_zero, List.set_cons_succ, i64_w, i32_w]
    rfl
  refine pure_ (i := 16) (N := some 109) (v := ?_) (a' := ?_) #[true, true, true, true, true, true, true, true, true, true, true, true, true, true, true, true, true, false, false] rfl rfl (any_of HT_.out (by kernel_rfl)) (fun _ _ _ h => h) (Or.inl ⟨by rfl, ?_⟩) ?_ ?_
  rotate_left
  · intro w'
    go_simp
    with_reducible rfl
  rotate_left
  · simp only [Act.put, List.setIfInBounds_toArray, List.set_cons_zero, List.set_cons_succ, i64_w, i32_w]
    rfl
  refine pure_ (i := 17) (N := some 110) (v := ?_) (a' := ?_) #[true, true, true, true, true, true, true, true, true, true, true, true, true, true, true, true, true, true, false] rfl rfl (any_of HT_.out (by kernel_rfl)) (fun _ _ _ h => h) (Or.inl ⟨by rfl, ?_⟩) ?_ ?_
  rotate_left
  · intro w'
    go_simp
    with_reducible rfl
  rotate_left
  · simp only [Act.put, List.setIfInBounds_toArray, List.set_cons_zero, List.set_cons_succ, i64_w, i32_w]
    rfl
  refine last_ (i := 18) (N := none) #[true, true, true, true, true, true, true, true, true, true, true, true, true, true, true, true, true, true, true] rfl rfl (one_of HT_.out (by kernel_rfl)) (by decide) (fun K hK => ?_)
  have hc8 := HC6.out.c8
  have hf8 := blk_frozen HC6.out 8
  refine skip_ (w1 := ?_) (by rfl) rfl ?_ ?_
  rotate_left
  · go_simp
    rfl
  refine hK.out _ _ ?_
  clear hK K hc8 hf8
  have HA7 := Aside0.mk (R_set HA6.out HC6.out (by intro q hq; simp [Kd.raw] at hq; subst hq; decide) 8 (.slice Av 1 cv))
  have HC7 := Aside0.mk (show Cli (w6.setCell ⟨g, 8, none⟩ (.slice Av 1 cv)) g n ma ld (.slice (some ⟨b, 0, none⟩) 1 cl) 0 seq since 0 (.slice Av 1 cv) from blk_set HC6.out 8 (.slice Av 1 cv))
  have HK7 := Aside0.mk (HK6.out.set_ 8 (.slice Av 1 cv))
  clear HC6 HX6 HK6 HA6 hHeld
  generalize w6.setCell ⟨g, 8, none⟩ (.slice Av 1 cv) = w7 at HA7 HC7 HK7 ⊢
  refine done_ (done_of HT_.out (by kernel_rfl)) ?_
  have g4 := HC7.out.c4
  have g6 := HC7.out.c6
  have gf4 := blk_frozen HC7.out 4
  have gf6 := blk_frozen HC7.out 6
  go_wp2_with fail
  go_end0
  refine ⟨rfl, ?_⟩
  refine ⟨Av, cv, ?_, ?_, ?_⟩
  · exact blk_set (blk_set HC7.out 4 _) 6 _
  · have hC8 : Cli (w7.setCell ⟨g, 4, none⟩ (.int .i64 1)) g n ma ld (.slice (some ⟨b, 0, none⟩) 1 cl) 1 seq since 0 (.slice Av 1 cv) := blk_set HC7.out 4 _
    exact R_set (R_set HA7.out HC7.out (by intro q hq; simp [Kd.raw] at hq; subst hq; decide) 4 _) hC8 (by intro q hq; simp [Kd.raw] at hq; subst hq; decide) 6 _
  · exact (HK7.out.set_ 4 _).set_ 6 _
theorem told_open (w : World) (g : Nat) (n ma ld : Int) (b cl : Nat) (seq since silent : Int) (s : ByteArray) (id : Nat) (rid  st step ep : Nat) (A : Option Addr) (c : Nat)
    (H : Cli w g n ma ld (.slice (some ⟨b, 0, none⟩) 1 cl) 0 seq since silent (.slice none 0 0)) (hn : 0 ≤ n ∧ n ≤ 100) (sq : Nat) (hs : 0 ≤ seq ∧ seq ≤ 1000000) (hsq : (sq : Int) = 0) (hbg : b ≠ g) (hst : st = 1 ∨ st = 2)
    (k0 : w.cell? ⟨b, 0, none⟩ = some (.int .i64 4)) (k1 : w.cell? ⟨b, 1, none⟩ = some (.string s)) (k2 : w.cell? ⟨b, 2, none⟩ = some (.int .i64 id)) :
    Calls Try.prog 107 #[.pointer (some ⟨g, 0, none⟩), .agg (toldC 3 (n + 1) sq 0 rid id st step ep (.slice A 0 c))] w fun e w' => e = .returned (.tuple #[]) ∧ Cli w' g n ma ld (.slice (some ⟨b, 0, none⟩) 1 cl) 0 seq since 0 (.slice none 0 0) ∧ KB w w' g := by
  rcases hst with hst | hst
  · exact told_open1 w g n ma ld b cl seq since silent s id rid st step ep A c H hn sq hs hsq hbg hst k0 k1 k2
  · exact told_open2 w g n ma ld b cl seq since silent s id rid st step ep A c H hn sq hs hsq hbg hst k0 k1 k2
end Go.Proofs.Ytbeefbhoccdicaa.CliT
