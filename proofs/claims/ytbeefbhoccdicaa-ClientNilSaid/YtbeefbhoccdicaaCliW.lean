/- awake of the client's laws: walked. -/
import Derived.Test.YtbeefbhoccdicaaCliB
namespace Go.Proofs.Ytbeefbhoccdicaa.CliW
open Go.RowKit Go.Proofs.YtbeefbhoccdicaaW.PrintWords Go.Proofs.YtbeefbhoccdicaaW.PrintLast Go.Proofs.YtbeefbhoccdicaaW.PrintMore Go.Proofs.Ytbeefbhoccdicaa.QGraphReads Go.Proofs.Ytbeefbhoccdicaa.PlainV Go.Proofs.Ytbeefbhoccdicaa.WireNum Go.Proofs.Ytbeefbhoccdicaa.WireRead Go.Proofs.Ytbeefbhoccdicaa.RdSpec Go.Proofs.Ytbeefbhoccdicaa.RdC Go.Proofs.Ytbeefbhoccdicaa.CloneC Go.Proofs.Ytbeefbhoccdicaa.CliA Go.Proofs.Ytbeefbhoccdicaa.CliK Go.Proofs.Ytbeefbhoccdicaa.CliT Go.Proofs.Ytbeefbhoccdicaa.TakeA Go.Proofs.Ytbeefbhoccdicaa.TakeT Go.Proofs.Ytbeefbhoccdicaa.DecS Go.Proofs.Ytbeefbhoccdicaa.EncS Go.Proofs.Ytbeefbhoccdicaa.CliH Go.Proofs.Ytbeefbhoccdicaa.CliL Go.Proofs.Ytbeefbhoccdicaa.CliP Go.Proofs.Ytbeefbhoccdicaa.CliV Go.Proofs.Ytbeefbhoccdicaa.CliB
set_option linter.unusedVariables false
set_option linter.unusedSimpArgs false

/-- One element, in a block of its own. -/
theorem R_box {sz e : Nat} {w : World} {base b : Nat} {row : List Value} (hb : base ≤ b) (h : w.heap[b]? = some (.cells row.toArray e (0, 0))) (hl : row.length = sz) (ho : ∀ u ∈ row, u.oneCell' = true) :
    (Kd.raw sz).R e w base (fun _ => True) (.slice (some ⟨b, 0, none⟩) 1 1) [row] := by
  have htk : row.take sz = row := List.take_of_length_le (by omega)
  refine ⟨fun _ _ => trivial, row, ⟨by simp [Kd.raw, hl], .inr ⟨b, 1, row.toArray, rfl, hb, h, Nat.le_refl _, by decide, by simp [Kd.raw, hl], by simp [Kd.raw, htk]⟩⟩, ⟨by simp [Kd.raw, hl], fun j p hj => ?_⟩⟩
  have hj0 : j = 0 := by
    have := (List.getElem?_eq_some_iff.1 hj).1
    simpa using this
  subst hj0
  have hp : row = p := by simpa using hj
  subst hp
  have e1 : ((row.drop (0 * (Kd.raw sz).sz)).take (Kd.raw sz).sz) = row := by simp [Kd.raw, htk]
  rw [e1]
  exact ⟨rfl, hl, ho⟩
theorem R_oneG {sz e : Nat} {w : World} {base : Nat} {v : Value} {row : List Value} (h : (Kd.raw sz).R e w base (fun _ => True) v [row]) :
    ∃ q c cur, v = .slice (some ⟨q, 0, none⟩) 1 c ∧ base ≤ q ∧ w.heap[q]? = some (.cells cur e (0, 0)) ∧ ∀ (j : Nat) u, row[j]? = some u → cur[j]? = some u := by
  obtain ⟨_, inner, ho, hr⟩ := h
  have h0 := hr.2 0 row rfl
  rcases ho.2 with ⟨_, hn⟩ | ⟨q, cap, cur, rfl, hq, hh, h1, h2, h3, h4⟩
  · cases hn
  · refine ⟨q, cap, cur, rfl, hq, hh, fun j u hj => ?_⟩
    have e1 : (inner.drop (0 * sz)).take sz = row := h0.1
    have hl : row.length = sz := by have := h0.2.1; rw [show (List.take (Kd.raw sz).sz (List.drop (0 * (Kd.raw sz).sz) inner)) = row from e1] at this; exact this
    have hj' : j < sz := by have := List.getElem?_eq_some_iff.1 hj; obtain ⟨hlt, _⟩ := this; omega
    have e2 : cur.toList.take sz = inner := by simpa [show (Kd.raw sz).sz = sz from rfl] using h4
    rw [Nat.zero_mul, List.drop_zero, ← e2, List.take_take, Nat.min_self] at e1
    rw [← e1, List.getElem?_take_of_lt hj'] at hj
    simpa using hj
theorem extract_of (C : Array Value) (o : Nat) (l : List Value) (h : ∀ (j : Nat) v, l[j]? = some v → C[o + j]? = some v) (hs : o + l.length ≤ C.size) : C.extract o (o + l.length) = l.toArray := by
  apply Array.ext_getElem?
  intro i
  rw [Array.getElem?_extract]
  by_cases hi : i < l.length
  · rw [if_pos (by omega), h i l[i] (List.getElem?_eq_getElem hi)]
    simp [hi]
  · rw [if_neg (by omega)]
    simp [hi]
set_option maxRecDepth 100000 in
theorem field8 (C0 : Array Value) (m : World) (v0 v1 v2 v3 v4 : Value) (h : C0.extract 62 67 = #[v0, v1, v2, v3, v4]) (h2 : C0.size = 86) : (Instr.field 192 (.agg C0) 8).run Try.prog m = .ok (.agg #[v0, v1, v2, v3, v4]) m := by
  unfold Instr.field part
  go_simp
  simp [asAgg, Sem.run_pure, h]
theorem f179_0 (m : World) (v0 v1 v2 v3 v4 : Value) : (Instr.field 179 (.agg #[v0, v1, v2, v3, v4]) 0).run Try.prog m = .ok v0 m := by
  unfold Instr.field part
  go_simp
  simp [asAgg, Sem.run_pure]
theorem f179_2 (m : World) (v0 v1 v2 v3 v4 : Value) : (Instr.field 179 (.agg #[v0, v1, v2, v3, v4]) 2).run Try.prog m = .ok v2 m := by
  unfold Instr.field part
  go_simp
  simp [asAgg, Sem.run_pure]
theorem f179_3 (m : World) (v0 v1 v2 v3 v4 : Value) : (Instr.field 179 (.agg #[v0, v1, v2, v3, v4]) 3).run Try.prog m = .ok v3 m := by
  unfold Instr.field part
  go_simp
  simp [asAgg, Sem.run_pure]
theorem szA {s x : ByteArray} {k : Nat} {ses : Int} {seq id : Nat} (h : bs s = vb 10 5 ++ bA k ses seq id x) (hx : x.size ≤ 1000) : Sz s := by
  have h1 : (bs s).length ≤ 2000 := by
    rw [h]
    unfold bA RdC.lS
    simp only [List.length_append, List.flatMap_cons, List.flatMap_nil, List.length_nil]
    have a1 := vb_length 10 5
    have a2 := vb_length 10 k
    have a3 := vb_length 10 (foldZ ses).toNat
    have a4 := vb_length 10 seq
    have a5 := vb_length 10 id
    have a6 := vb_length 10 x.size
    have a7 := bs_length x
    omega
  rw [bs_length] at h1
  unfold Sz
  omega
theorem new_one (w : World) (n ma : Int) (b0 : Nat) (row : List Value) (hb : w.heap[b0]? = some (.cells row.toArray 115 (0, 0))) (hl : row.length = 3) (ho : ∀ u ∈ row, u.oneCell' = true) (h1 : 0 ≤ n ∧ n < 8) (h2 : 1 ≤ ma ∧ ma ≤ 7) :
    Calls Try.prog 63 #[.int .i64 n, .int .i64 ma, .slice (some ⟨b0, 0, none⟩) 1 1] w fun e w' => ∃ g b cl, e = .returned (.tuple #[.pointer (some ⟨g, 0, none⟩), .int .i64 0]) ∧ Cli w' g n ma 0 (.slice (some ⟨b, 0, none⟩) 1 cl) 0 0 0 0 (.slice none 0 0) ∧
      (∀ (j : Nat) u, row[j]? = some u → w'.cell? ⟨b, j, none⟩ = some u) ∧ b ≠ g ∧ w.heap.size ≤ g ∧ w.heap.size ≤ b ∧ Kp w w' := by
  have hR := R_box (sz := 3) (base := 0) (Nat.zero_le _) hb hl ho
  refine (new_ok w n ma [row] (some ⟨b0, 0, none⟩) 1 (Kd.R_reads' hR).2.2 (by simp) h1 h2).mono ?_
  rintro e w' ⟨⟨g, v, rfl, hC, hv, hg⟩, hb'⟩
  obtain ⟨q, c, cur, rfl, hq, hh, hc⟩ := R_oneG hv
  exact ⟨g, q, c, rfl, hC, fun j u hu => (blk_cell hh j).trans (hc j u hu), blk_ne hh hC (by decide), hg, hq, Kp.of_below hb'⟩
attribute [local go_sem] f179_0 f179_2 f179_3
set_option maxHeartbeats 8000000 in
set_option maxRecDepth 100000 in
theorem awake_calls (w : World) : Calls Try.prog 64 #[] w fun e w' => e = .returned (.bool true) ∧ Kp w w' := by
  go_enter Try.func64, Try.ntmps64
  go_wp2_with fail
  have HK1 := Aside0.mk (Kp.of_below (below_alloc (Below.refl w.heap.size w) (.cells #[.int .i64 1, .string ⟨#[120]⟩, .int .i64 0] 115)))
  have HX1 := Aside0.mk (blk_new w (.cells #[.int .i64 1, .string ⟨#[120]⟩, .int .i64 0] 115))
  refine (new_one _ 0 1 _ [.int .i64 1, .string ⟨#[120]⟩, .int .i64 0] HX1.out rfl (by intro u hu; simp at hu; rcases hu with rfl | rfl | rfl <;> rfl) (by omega) (by omega)).mono ?_
  rintro e w2 ⟨g, b, cl, rfl, hC, hrow, hbg, hg, hb, hk⟩
  have HK2 := Aside0.mk (HK1.out.trans hk)
  have HC2 := Aside0.mk hC
  have HG := Aside0.mk (show w.heap.size ≤ g from Nat.le_trans HK1.out.to.size hg)
  have HBG := Aside0.mk hbg
  have HK0 := Aside0.mk (hrow 0 _ rfl)
  have HKa := Aside0.mk (hrow 1 _ rfl)
  have HKb := Aside0.mk (hrow 2 _ rfl)
  clear hC hrow hbg hg hb hk HK1 HX1
  go_wp2_with fail
  refine (tick_first w2 g 0 1 b cl (.slice none 0 0) ⟨#[120]⟩ 0 (by decide) HC2.out (by omega) HBG.out HK0.out HKa.out HKb.out).mono ?_
  rintro e w3 ⟨q, c1, x, rfl, hq, hx, hC3, hk3, hq3⟩
  have HQ := Aside0.mk hq
  have HX := Aside0.mk hx
  have HC3 := Aside0.mk hC3
  have HK3 := Aside0.mk (HK2.out.but hk3 HG.out)
  have hkb := hk3.blk b (World.block_lt_of_cell? _ _ HK0.out) HBG.out
  have HJ0 := Aside0.mk ((World.cell?_of_block (a := ⟨b, 0, none⟩) hkb).trans HK0.out)
  have HJ1 := Aside0.mk ((World.cell?_of_block (a := ⟨b, 1, none⟩) hkb).trans HKa.out)
  have HJ2 := Aside0.mk ((World.cell?_of_block (a := ⟨b, 2, none⟩) hkb).trans HKb.out)
  have HGQ := Aside0.mk (show q ≠ g from blk_ne hq hC3 (by decide))
  clear hq hx hC3 hk3 hq3 hkb HK0 HKa HKb HC2 HK2
  obtain ⟨C0, hC0⟩ : ∃ C0, putL (z5 5) 62 (askC 1 (0 + 1) 1 0 ⟨#[120]⟩).toList = C0 := ⟨_, rfl⟩
  have HC0 := Aside0.mk hC0
  clear hC0
  have HSAY : Aside0 (∀ m : World, Calls Try.prog 102 #[.agg #[.int .i64 200, .int .i64 0, .string x]] m fun e w' => e = .returned (.agg C0) ∧ Kp m w') := Aside0.mk (fun m => (say_ask m 200 0 x 1 (0 + 1) 1 0 ⟨#[120]⟩ HX.out (szA HX.out (by decide)) (by decide) (by unfold In; omega) (by decide) (by decide)).mono (fun _ _ h => ⟨h.1.trans (by rw [HC0.out]), Kp.of_below h.2⟩))
  have hF : ∀ m : World, (Instr.field 192 (.agg C0) 8).run Try.prog m = .ok (.agg #[.int .i64 1, .int .i64 1, .int .i64 1, .string ⟨#[120]⟩, .int .i64 0]) m := by
    intro m
    refine field8 C0 m _ _ _ _ _ ?_ (by rw [← HC0.out, putL_size, z5_size])
    have := extract_of C0 62 (askC 1 (0 + 1) 1 0 ⟨#[120]⟩).toList (fun j v hj => by rw [← HC0.out]; exact putL_in _ _ _ _ _ (by rw [z5_size]; exact (by decide : 62 + 5 ≤ 86)) hj) (by rw [← HC0.out, putL_size, z5_size]; exact (by decide : 62 + 5 ≤ 86))
    exact this
  have q0 : w3.cell? ⟨q, 0, none⟩ = some (.int .i64 200) := (blk_cell HQ.out 0).trans rfl
  have q1 : w3.cell? ⟨q, 1, none⟩ = some (.int .i64 0) := (blk_cell HQ.out 1).trans rfl
  have q2 : w3.cell? ⟨q, 2, none⟩ = some (.string x) := (blk_cell HQ.out 2).trans rfl
  go_wp2_with fail
  refine (HSAY.out w3).mono ?_
  rintro e w4 ⟨rfl, hk⟩
  replace q0 := hk.cell q0
  replace q1 := hk.cell q1
  replace q2 := hk.cell q2
  have HKS4 := Aside0.mk hk
  clear hk
  go_wp2_with fail
  refine (HSAY.out w4).mono ?_
  rintro e w5 ⟨rfl, hk⟩
  replace q0 := hk.cell q0
  replace q1 := hk.cell q1
  replace q2 := hk.cell q2
  have HKS5 := Aside0.mk (HKS4.out.trans hk)
  clear hk
  go_wp2_with fail
  refine (HSAY.out w5).mono ?_
  rintro e w6 ⟨rfl, hk⟩
  replace q0 := hk.cell q0
  replace q1 := hk.cell q1
  replace q2 := hk.cell q2
  have HKS6 := Aside0.mk (HKS5.out.trans hk)
  clear hk
  go_wp2_with fail
  clear q0 q1 q2 hF
  have HC6 := Aside0.mk (show Cli w6 g 0 1 0 (.slice (some ⟨b, 0, none⟩) 1 cl) 0 0 4 1 (.slice none 0 0) from HKS6.out.blk HC3.out)
  have HJ0' := Aside0.mk (HKS6.out.cell HJ0.out)
  have HJ1' := Aside0.mk (HKS6.out.cell HJ1.out)
  have HJ2' := Aside0.mk (HKS6.out.cell HJ2.out)
  have HK6 := Aside0.mk (HK3.out.trans HKS6.out)
  clear HKS4 HKS5 HKS6 HC3 HJ0 HJ1 HJ2 HK3 HQ HX HSAY HC0
  refine (law_told w6 g 0 1 0 (some ⟨b, 0, none⟩) cl 0 4 1 (.slice none 0 0) 0 1 (0 + 1) 1 0 4 0 0 0 0 HC6.out (by omega) (by decide) (by unfold In; omega) (by decide) (by decide) (by decide) (by decide) (by decide) (by decide) (by decide)
    (fun w' => ∃ Av cv A c, Cli w' g 0 1 0 (.slice (some ⟨b, 0, none⟩) 1 cl) 1 (0 + 1) 0 0 (.slice Av 1 cv) ∧ Kd.R (Kd.raw 11) 130 w' w.heap.size (fun _ => True) (.slice Av 1 cv) [[.int .i64 0, .int .i64 0, .int .i64 (4 : Nat), .int .i64 (0 : Nat), .int .i64 (0 : Nat), .int .i64 (0 : Nat), .int .i64 (0 : Nat), .int .i64 0, .int .i64 0, .int .i64 0, .slice A 0 c]] ∧ Kp w w')
    (fun w7 A c hb7 => (told_submit w7 g 0 1 0 b cl 0 4 1 ⟨#[120]⟩ 0 4 0 0 0 0 A c (blk_below HC6.out hb7) (by omega) 1 (by omega) rfl ((Kp.of_below hb7).cell HJ0'.out) ((Kp.of_below hb7).cell HJ1'.out) ((Kp.of_below hb7).cell HJ2'.out)).mono ?_)).mono ?_
  · rintro e w8 ⟨rfl, Av, cv, hC, hR, hk⟩
    exact ⟨rfl, Av, cv, A, c, hC, Kd.R_lower hR (Nat.le_trans HK6.out.to.size hb7.size), (HK6.out.trans (Kp.of_below hb7)).but hk HG.out⟩
  rintro e w8 ⟨rfl, Av, cv, A, c, hC, hR, hk⟩
  have HC8 := Aside0.mk hC
  have HR8 := Aside0.mk hR
  have HK8 := Aside0.mk hk
  clear hC hR hk HC6 HJ0' HJ1' HJ2' HK6
  go_wp2_with fail
  refine (heard_one w8 g 0 1 0 _ 1 (0 + 1) 0 0 Av cv _ A c HC8.out (Kd.R_reads' HR8.out).2.2 rfl).mono ?_
  rintro e w9 ⟨⟨q9, c9, cur, rfl, hq9, hcur⟩, hb9⟩
  have x2 : w9.cell? ⟨q9, 2, none⟩ = some (.int .i64 4) := (blk_cell hq9 2).trans (hcur 2 _ (by decide) rfl)
  have HC9 := Aside0.mk (show Cli w9 g 0 1 0 (.slice (some ⟨b, 0, none⟩) 1 cl) 1 (0 + 1) 0 0 (.slice Av 1 cv) from blk_below HC8.out hb9)
  have HK9 := Aside0.mk (HK8.out.trans (Kp.of_below hb9))
  clear hq9 hcur hb9 HC8 HR8 HK8
  go_wp2_with fail
  refine (ended_shut w9 g 0 1 0 _ cl (0 + 1) 0 0 _ HC9.out).mono ?_
  rintro e w' ⟨rfl, m, rfl⟩
  replace x2 : (w9.drewN m).cell? ⟨q9, 2, none⟩ = some (.int .i64 4) := x2
  go_wp2_with fail
  go_ret
  exact ⟨rfl, HK9.out.drewN m⟩
end Go.Proofs.Ytbeefbhoccdicaa.CliW
