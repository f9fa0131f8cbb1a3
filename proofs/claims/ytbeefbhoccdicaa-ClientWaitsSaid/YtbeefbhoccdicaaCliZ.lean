/- ClientWaits: the law's own code, walked. -/
import Derived.Test.YtbeefbhoccdicaaCliW
namespace Go.Proofs.Ytbeefbhoccdicaa.CliZ
open Go.RowKit Go.Proofs.YtbeefbhoccdicaaW.PrintWords Go.Proofs.YtbeefbhoccdicaaW.PrintLast Go.Proofs.YtbeefbhoccdicaaW.PrintMore Go.Proofs.Ytbeefbhoccdicaa.QGraphReads Go.Proofs.Ytbeefbhoccdicaa.PlainV Go.Proofs.Ytbeefbhoccdicaa.WireNum Go.Proofs.Ytbeefbhoccdicaa.WireRead Go.Proofs.Ytbeefbhoccdicaa.RdSpec Go.Proofs.Ytbeefbhoccdicaa.RdC Go.Proofs.Ytbeefbhoccdicaa.CloneC Go.Proofs.Ytbeefbhoccdicaa.CliA Go.Proofs.Ytbeefbhoccdicaa.CliK Go.Proofs.Ytbeefbhoccdicaa.CliT Go.Proofs.Ytbeefbhoccdicaa.TakeA Go.Proofs.Ytbeefbhoccdicaa.TakeT Go.Proofs.Ytbeefbhoccdicaa.DecS Go.Proofs.Ytbeefbhoccdicaa.EncS Go.Proofs.Ytbeefbhoccdicaa.CliH Go.Proofs.Ytbeefbhoccdicaa.CliL Go.Proofs.Ytbeefbhoccdicaa.CliP Go.Proofs.Ytbeefbhoccdicaa.CliV Go.Proofs.Ytbeefbhoccdicaa.CliB Go.Proofs.Ytbeefbhoccdicaa.CliW
set_option linter.unusedVariables false
set_option linter.unusedSimpArgs false

/-- A client that waits for a job's end. -/
structure St (w : World) (g b cl : Nat) (id : Nat) (since silent : Int) (wr : World) : Prop where
  kp : Kp w wr
  c : Cli wr g 1 2 0 (.slice (some ⟨b, 0, none⟩) 1 cl) 0 0 since silent (.slice none 0 0)
  k0 : wr.cell? ⟨b, 0, none⟩ = some (.int .i64 4)
  k1 : wr.cell? ⟨b, 1, none⟩ = some (.string ⟨#[]⟩)
  k2 : wr.cell? ⟨b, 2, none⟩ = some (.int .i64 (id : Int))
theorem St.kpt {w wr w1 : World} {g b cl id : Nat} {since silent : Int} (h : St w g b cl id since silent wr) (k : Kp wr w1) : St w g b cl id since silent w1 :=
  ⟨h.kp.trans k, k.blk h.c, k.cell h.k0, k.cell h.k1, k.cell h.k2⟩
/-- What is told. -/
def tell (id st : Nat) : Array Value := toldC 3 2 0 0 0 id st 0 0 (.slice none 0 0)
theorem told_wait (w wr : World) (g b cl id : Nat) (since silent : Int) (st : Nat) (h : St w g b cl id since silent wr) (hbg : b ≠ g) (hg : w.heap.size ≤ g) (hid : id ≤ 1073741824) (hst : st = 1 ∨ st = 2) :
    Calls Try.prog 65 #[.pointer (some ⟨g, 0, none⟩), .int .i64 0, .int .i64 201, .agg (tell id st)] wr fun e w' => e = .returned (.tuple #[]) ∧ St w g b cl id since 0 w' := by
  refine law_told wr g 1 2 0 (some ⟨b, 0, none⟩) cl 0 since silent (.slice none 0 0) 0 3 2 0 0 0 id st 0 0 h.c (by omega) (by decide) (by unfold In; omega) (by decide) (by decide) (by decide) (by omega) (by omega) (by decide) (by decide)
    (fun w' => St w g b cl id since 0 w') (fun w7 A c hb7 => ?_)
  have h7 := h.kpt (Kp.of_below hb7)
  refine (told_open w7 g 1 2 0 b cl 0 since silent ⟨#[]⟩ id 0 st 0 0 A c h7.c (by omega) 0 (by omega) rfl hbg hst h7.k0 h7.k1 h7.k2).mono ?_
  rintro e w8 ⟨rfl, hC, hk⟩
  have hkb := hk.blk b (World.block_lt_of_cell? _ _ h7.k0) hbg
  exact ⟨rfl, h7.kp.but hk hg, hC, (World.cell?_of_block (a := ⟨b, 0, none⟩) hkb).trans h7.k0, (World.cell?_of_block (a := ⟨b, 1, none⟩) hkb).trans h7.k1, (World.cell?_of_block (a := ⟨b, 2, none⟩) hkb).trans h7.k2⟩
/-- The client has heard of the end. -/
def En (w : World) (g b cl id st : Nat) (w' : World) : Prop :=
  ∃ Av cv A c, Cli w' g 1 2 0 (.slice (some ⟨b, 0, none⟩) 1 cl) 1 0 0 0 (.slice Av 1 cv) ∧ Kd.R (Kd.raw 11) 130 w' w.heap.size (fun _ => True) (.slice Av 1 cv) [[.int .i64 0, .int .i64 0, .int .i64 (0 : Nat), .int .i64 (id : Nat), .int .i64 (st : Nat), .int .i64 (0 : Nat), .int .i64 (0 : Nat), .int .i64 0, .int .i64 0, .int .i64 0, .slice A 0 c]] ∧ Kp w w'
theorem told_end (w wr : World) (g b cl id : Nat) (since silent : Int) (st : Nat) (h : St w g b cl id since silent wr) (hbg : b ≠ g) (hg : w.heap.size ≤ g) (hid : id ≤ 1073741824) (hst : 3 ≤ st) (hst' : st ≤ 4) :
    Calls Try.prog 65 #[.pointer (some ⟨g, 0, none⟩), .int .i64 0, .int .i64 201, .agg (tell id st)] wr fun e w' => e = .returned (.tuple #[]) ∧ En w g b cl id st w' := by
  refine law_told wr g 1 2 0 (some ⟨b, 0, none⟩) cl 0 since silent (.slice none 0 0) 0 3 2 0 0 0 id st 0 0 h.c (by omega) (by decide) (by unfold In; omega) (by decide) (by decide) (by decide) (by omega) (by omega) (by decide) (by decide)
    (fun w' => En w g b cl id st w') (fun w7 A c hb7 => ?_)
  have h7 := h.kpt (Kp.of_below hb7)
  refine (told_ended w7 g 1 2 0 b cl 0 since silent ⟨#[]⟩ id 0 st 0 0 A c h7.c (by omega) 0 (by omega) rfl hbg hst h7.k0 h7.k1 h7.k2).mono ?_
  rintro e w8 ⟨rfl, Av, cv, hC, hR, hk⟩
  exact ⟨rfl, Av, cv, A, c, hC, Kd.R_lower hR h7.kp.to.size, h7.kp.but hk hg⟩
theorem state_of (z : Int) : ∃ st : Nat, wrap64 ((wrap64 (z.tmod 4 + 4)).tmod 4 + 1) = (st : Int) ∧ 1 ≤ st ∧ st ≤ 4 := by
  have h1 : z.tmod 4 < 4 := Int.tmod_lt_of_pos z (by decide)
  have h2 : -4 < z.tmod 4 := Int.lt_tmod_of_pos z (by decide)
  generalize z.tmod 4 = u at h1 h2
  have e1 : wrap64 (u + 4) = u + 4 := by unfold wrap64; omega
  rw [e1, Int.tmod_eq_emod_of_nonneg (by omega)]
  have e2 : wrap64 ((u + 4) % 4 + 1) = (u + 4) % 4 + 1 := by unfold wrap64; omega
  rw [e2]
  exact ⟨((u + 4) % 4 + 1).toNat, by omega, by omega, by omega⟩
theorem int_at {w : World} {A : Option Addr} {n : Nat} {xs : List Int} (h : Kd.C (Kd.int .i64) w A n xs) (j : Nat) (q : Int) (hj : xs[j]? = some q) : ∃ ad, A = some ad ∧ w.cell? (ad.add j) = some (.int .i64 q) := by
  have hn : 0 < n := by have := h.1; have := (List.getElem?_eq_some_iff.1 hj).1; omega
  obtain ⟨ad, e, hc⟩ := h.2.2 hn
  obtain ⟨cs, hl, hk, hu⟩ := hc j q hj
  have hk' : cs = [.int .i64 q] := hk
  subst hk'
  have h3 : w.cell? (ad.add (j * 1 + 0)) = some (.int .i64 q) := hu 0 _ rfl
  rw [Nat.mul_one, Nat.add_zero] at h3
  exact ⟨ad, e, h3⟩
set_option maxHeartbeats 8000000 in
set_option maxRecDepth 100000 in
theorem waits_2 (w : World) (id : Nat) (xs : List Int) (A : Option Addr) (c : Nat) (hC : Kd.C (Kd.int .i64) w A xs.length xs) (hid : id ≤ 1073741824) :
    Calls Try.prog 12 #[.int .i64 (id : Int), .slice A xs.length c] w fun e w' => e = .returned (.bool true) ∧ Kp w w' := by
  have HX := Aside0.mk hC
  clear hC
  have d1 : decide ((id : Int) < 0) = false := decide_eq_false (by omega)
  have d2 : decide ((id : Int) > 1073741824) = false := decide_eq_false (by omega)
  go_enter Try.func12, Try.ntmps12
  go_wp2_with fail
  have HK1 := Aside0.mk (Kp.of_below (below_alloc (Below.refl w.heap.size w) (.cells #[.int .i64 4, .string ⟨#[]⟩, .int .i64 (id : Int)] 115)))
  have HX1 := Aside0.mk (blk_new w (.cells #[.int .i64 4, .string ⟨#[]⟩, .int .i64 (id : Int)] 115))
  refine (new_one _ 1 2 _ [.int .i64 4, .string ⟨#[]⟩, .int .i64 (id : Int)] HX1.out rfl (by intro u hu; simp at hu; rcases hu with rfl | rfl | rfl <;> rfl) (by omega) (by omega)).mono ?_
  rintro e w2 ⟨g, b, cl, rfl, hC, hrow, hbg, hg, hb, hk⟩
  have HG := Aside0.mk (show w.heap.size ≤ g from Nat.le_trans HK1.out.to.size hg)
  have HBG := Aside0.mk hbg
  have HS2 := Aside0.mk (show St w g b cl id 0 0 w2 from ⟨HK1.out.trans hk, hC, hrow 0 _ rfl, hrow 1 _ rfl, hrow 2 _ rfl⟩)
  clear hC hrow hbg hg hb hk HK1 HX1
  go_wp2_with fail
  refine (awake_calls w2).mono ?_
  rintro e w3 ⟨rfl, hk3⟩
  have HS3 := Aside0.mk (HS2.out.kpt hk3)
  clear hk3 HS2
  go_wp2_with fail
  go_loopw [7] (fun v7 wr => ∃ k : Nat, v7 = .int .i64 (k : Int) ∧ k ≤ xs.length ∧ ∃ since silent : Int, Aside0 (St w g b cl id since silent wr)) (fun v7 _ => (xs.length - (intOf v7)).toNat)
  case atStart => exact ⟨0, rfl, Nat.zero_le _, 0, 0, HS3⟩
  case round =>
    obtain ⟨k, rfl, hk, since, silent, HS⟩ := hrel
    rcases Nat.lt_or_ge k xs.length with hlt | hge
    · rcases Nat.lt_or_ge k 40 with h40 | h40
      · have hlt1 : ((k : Int) < (xs.length : Int)) = True := eq_true (by omega)
        have h401 : ((k : Int) < 40) = True := eq_true (by omega)
        obtain ⟨ad, hA, hx⟩ := int_at HX.out k _ (List.getElem?_eq_getElem hlt)
        subst hA
        replace hx := HS.out.kp.cell hx
        generalize xs[k] = z at hx
        go_wp2_with fail
        obtain ⟨st, hst, hs1, hs4⟩ := state_of z
        rw [hst]
        clear hst hx
        rcases Nat.lt_or_ge st 3 with hlo | hhi
        · have hg3 : decide ((st : Int) ≥ 3) = false := decide_eq_false (by omega)
          refine (told_wait w wr g b cl id since silent st HS.out HBG.out HG.out hid (by omega)).mono ?_
          rintro e w4 ⟨rfl, hs⟩
          have HS4 := Aside0.mk hs
          clear hs
          go_wp2_with fail
          refine (ended_open w4 g 1 2 0 _ cl 0 since 0 _ HS4.out.c).mono ?_
          rintro e w' ⟨rfl, m, rfl⟩
          have HS5 := Aside0.mk (HS4.out.kpt ((Kp.refl w4).drewN m))
          generalize w4.drewN m = w5 at HS5 ⊢
          go_wp2_with fail
          refine (heard_none w5 g 1 2 0 _ 0 0 since 0 HS5.out.c).mono ?_
          rintro e w6 ⟨⟨A6, c6, rfl⟩, hb6⟩
          have HS6 := Aside0.mk (HS5.out.kpt (Kp.of_below hb6))
          clear hb6
          go_wp2_with fail
          go_roundw
          case rel => exact ⟨k + 1, by go_num, by omega, since, 0, HS6⟩
          case measure => simp [intOf]; omega
        · have hg3 : decide ((st : Int) ≥ 3) = true := decide_eq_true (by omega)
          refine (told_end w wr g b cl id since silent st HS.out HBG.out HG.out hid hhi hs4).mono ?_
          rintro e w4 ⟨rfl, Av, cv, A4, c4, hC, hR, hk4⟩
          have HC4 := Aside0.mk hC
          have HR4 := Aside0.mk hR
          have HK4 := Aside0.mk hk4
          clear hC hR hk4
          go_wp2_with fail
          refine (heard_one w4 g 1 2 0 _ 1 0 0 0 Av cv _ A4 c4 HC4.out (Kd.R_reads' HR4.out).2.2 rfl).mono ?_
          rintro e w5 ⟨⟨q9, c9, cur, rfl, hq9, hcur⟩, hb9⟩
          have x3 : w5.cell? ⟨q9, 3, none⟩ = some (.int .i64 (id : Int)) := (blk_cell hq9 3).trans (hcur 3 _ (by decide) rfl)
          have x4 : w5.cell? ⟨q9, 4, none⟩ = some (.int .i64 (st : Int)) := (blk_cell hq9 4).trans (hcur 4 _ (by decide) rfl)
          have HC5 := Aside0.mk (show Cli w5 g 1 2 0 (.slice (some ⟨b, 0, none⟩) 1 cl) 1 0 0 0 (.slice Av 1 cv) from blk_below HC4.out hb9)
          have HK5 := Aside0.mk (HK4.out.trans (Kp.of_below hb9))
          clear hq9 hcur hb9 HC4 HR4 HK4
          go_wp2_with fail
          refine (ended_shut w5 g 1 2 0 _ cl 0 0 0 _ HC5.out).mono ?_
          rintro e w' ⟨rfl, m, rfl⟩
          replace x3 : (w5.drewN m).cell? ⟨q9, 3, none⟩ = some (.int .i64 (id : Int)) := x3
          replace x4 : (w5.drewN m).cell? ⟨q9, 4, none⟩ = some (.int .i64 (st : Int)) := x4
          go_wp2_with fail
          go_ret
          exact ⟨rfl, HK5.out.drewN m⟩
      · have hlt1 : ((k : Int) < (xs.length : Int)) = True := eq_true (by omega)
        have h401 : ((k : Int) < 40) = False := eq_false (by omega)
        go_wp2_with fail
        refine (ended_open wr g 1 2 0 _ cl 0 since silent _ HS.out.c).mono ?_
        rintro e w' ⟨rfl, m, rfl⟩
        go_wp2_with fail
        go_ret
        exact ⟨rfl, HS.out.kp.drewN m⟩
    · have hlt1 : ((k : Int) < (xs.length : Int)) = False := eq_false (by omega)
      go_wp2_with fail
      refine (ended_open wr g 1 2 0 _ cl 0 since silent _ HS.out.c).mono ?_
      rintro e w' ⟨rfl, m, rfl⟩
      go_wp2_with fail
      go_ret
      exact ⟨rfl, HS.out.kp.drewN m⟩
set_option maxHeartbeats 8000000 in
set_option maxRecDepth 100000 in
theorem waits_0 (w : World) (i0 : Int) (xs : List Int) (A : Option Addr) (c : Nat) (hC : Kd.C (Kd.int .i64) w A xs.length xs) (h0 : i0 < 0) :
    Calls Try.prog 12 #[.int .i64 i0, .slice A xs.length c] w fun e w' => e = .returned (.bool true) ∧ Kp w w' := by
  have HX := Aside0.mk hC
  clear hC
  have d1 : decide (i0 < 0) = true := decide_eq_true h0
  clear h0
  go_enter Try.func12, Try.ntmps12
  go_wp2_with fail
  have HK1 := Aside0.mk (Kp.of_below (below_alloc (Below.refl w.heap.size w) (.cells #[.int .i64 4, .string ⟨#[]⟩, .int .i64 3] 115)))
  have HX1 := Aside0.mk (blk_new w (.cells #[.int .i64 4, .string ⟨#[]⟩, .int .i64 3] 115))
  refine (new_one _ 1 2 _ [.int .i64 4, .string ⟨#[]⟩, .int .i64 3] HX1.out rfl (by intro u hu; simp at hu; rcases hu with rfl | rfl | rfl <;> rfl) (by omega) (by omega)).mono ?_
  rintro e w2 ⟨g, b, cl, rfl, hC, hrow, hbg, hg, hb, hk⟩
  have HG := Aside0.mk (show w.heap.size ≤ g from Nat.le_trans HK1.out.to.size hg)
  have HBG := Aside0.mk hbg
  have HS2 := Aside0.mk (show St w g b cl 3 0 0 w2 from ⟨HK1.out.trans hk, hC, hrow 0 _ rfl, hrow 1 _ rfl, hrow 2 _ rfl⟩)
  clear hC hrow hbg hg hb hk HK1 HX1
  go_wp2_with fail
  refine (awake_calls w2).mono ?_
  rintro e w3 ⟨rfl, hk3⟩
  have HS3 := Aside0.mk (HS2.out.kpt hk3)
  clear hk3 HS2
  go_wp2_with fail
  go_loopw [7] (fun v7 wr => ∃ k : Nat, v7 = .int .i64 (k : Int) ∧ k ≤ xs.length ∧ ∃ since silent : Int, Aside0 (St w g b cl 3 since silent wr)) (fun v7 _ => (xs.length - (intOf v7)).toNat)
  case atStart => exact ⟨0, rfl, Nat.zero_le _, 0, 0, HS3⟩
  case round =>
    obtain ⟨k, rfl, hk, since, silent, HS⟩ := hrel
    rcases Nat.lt_or_ge k xs.length with hlt | hge
    · rcases Nat.lt_or_ge k 40 with h40 | h40
      · have hlt1 : ((k : Int) < (xs.length : Int)) = True := eq_true (by omega)
        have h401 : ((k : Int) < 40) = True := eq_true (by omega)
        obtain ⟨ad, hA, hx⟩ := int_at HX.out k _ (List.getElem?_eq_getElem hlt)
        subst hA
        replace hx := HS.out.kp.cell hx
        generalize xs[k] = z at hx
        go_wp2_with fail
        obtain ⟨st, hst, hs1, hs4⟩ := state_of z
        rw [hst]
        clear hst hx
        rcases Nat.lt_or_ge st 3 with hlo | hhi
        · have hg3 : decide ((st : Int) ≥ 3) = false := decide_eq_false (by omega)
          refine (told_wait w wr g b cl 3 since silent st HS.out HBG.out HG.out (by decide) (by omega)).mono ?_
          rintro e w4 ⟨rfl, hs⟩
          have HS4 := Aside0.mk hs
          clear hs
          go_wp2_with fail
          refine (ended_open w4 g 1 2 0 _ cl 0 since 0 _ HS4.out.c).mono ?_
          rintro e w' ⟨rfl, m, rfl⟩
          have HS5 := Aside0.mk (HS4.out.kpt ((Kp.refl w4).drewN m))
          generalize w4.drewN m = w5 at HS5 ⊢
          go_wp2_with fail
          refine (heard_none w5 g 1 2 0 _ 0 0 since 0 HS5.out.c).mono ?_
          rintro e w6 ⟨⟨A6, c6, rfl⟩, hb6⟩
          have HS6 := Aside0.mk (HS5.out.kpt (Kp.of_below hb6))
          clear hb6
          go_wp2_with fail
          go_roundw
          case rel => exact ⟨k + 1, by go_num, by omega, since, 0, HS6⟩
          case measure => simp [intOf]; omega
        · have hg3 : decide ((st : Int) ≥ 3) = true := decide_eq_true (by omega)
          refine (told_end w wr g b cl 3 since silent st HS.out HBG.out HG.out (by decide) hhi hs4).mono ?_
          rintro e w4 ⟨rfl, Av, cv, A4, c4, hC, hR, hk4⟩
          have HC4 := Aside0.mk hC
          have HR4 := Aside0.mk hR
          have HK4 := Aside0.mk hk4
          clear hC hR hk4
          go_wp2_with fail
          refine (heard_one w4 g 1 2 0 _ 1 0 0 0 Av cv _ A4 c4 HC4.out (Kd.R_reads' HR4.out).2.2 rfl).mono ?_
          rintro e w5 ⟨⟨q9, c9, cur, rfl, hq9, hcur⟩, hb9⟩
          have x3 : w5.cell? ⟨q9, 3, none⟩ = some (.int .i64 3) := (blk_cell hq9 3).trans (hcur 3 _ (by decide) rfl)
          have x4 : w5.cell? ⟨q9, 4, none⟩ = some (.int .i64 (st : Int)) := (blk_cell hq9 4).trans (hcur 4 _ (by decide) rfl)
          have HC5 := Aside0.mk (show Cli w5 g 1 2 0 (.slice (some ⟨b, 0, none⟩) 1 cl) 1 0 0 0 (.slice Av 1 cv) from blk_below HC4.out hb9)
          have HK5 := Aside0.mk (HK4.out.trans (Kp.of_below hb9))
          clear hq9 hcur hb9 HC4 HR4 HK4
          go_wp2_with fail
          refine (ended_shut w5 g 1 2 0 _ cl 0 0 0 _ HC5.out).mono ?_
          rintro e w' ⟨rfl, m, rfl⟩
          replace x3 : (w5.drewN m).cell? ⟨q9, 3, none⟩ = some (.int .i64 3) := x3
          replace x4 : (w5.drewN m).cell? ⟨q9, 4, none⟩ = some (.int .i64 (st : Int)) := x4
          go_wp2_with fail
          go_ret
          exact ⟨rfl, HK5.out.drewN m⟩
      · have hlt1 : ((k : Int) < (xs.length : Int)) = True := eq_true (by omega)
        have h401 : ((k : Int) < 40) = False := eq_false (by omega)
        go_wp2_with fail
        refine (ended_open wr g 1 2 0 _ cl 0 since silent _ HS.out.c).mono ?_
        rintro e w' ⟨rfl, m, rfl⟩
        go_wp2_with fail
        go_ret
        exact ⟨rfl, HS.out.kp.drewN m⟩
    · have hlt1 : ((k : Int) < (xs.length : Int)) = False := eq_false (by omega)
      go_wp2_with fail
      refine (ended_open wr g 1 2 0 _ cl 0 since silent _ HS.out.c).mono ?_
      rintro e w' ⟨rfl, m, rfl⟩
      go_wp2_with fail
      go_ret
      exact ⟨rfl, HS.out.kp.drewN m⟩
set_option maxHeartbeats 8000000 in
set_option maxRecDepth 100000 in
theorem waits_1 (w : World) (i0 : Int) (xs : List Int) (A : Option Addr) (c : Nat) (hC : Kd.C (Kd.int .i64) w A xs.length xs) (h0 : ¬ i0 < 0) (h1 : i0 > 1073741824) :
    Calls Try.prog 12 #[.int .i64 i0, .slice A xs.length c] w fun e w' => e = .returned (.bool true) ∧ Kp w w' := by
  have HX := Aside0.mk hC
  clear hC
  have d1 : decide (i0 < 0) = false := decide_eq_false h0
  have d2 : decide (i0 > 1073741824) = true := decide_eq_true h1
  clear h0 h1
  go_enter Try.func12, Try.ntmps12
  go_wp2_with fail
  have HK1 := Aside0.mk (Kp.of_below (below_alloc (Below.refl w.heap.size w) (.cells #[.int .i64 4, .string ⟨#[]⟩, .int .i64 3] 115)))
  have HX1 := Aside0.mk (blk_new w (.cells #[.int .i64 4, .string ⟨#[]⟩, .int .i64 3] 115))
  refine (new_one _ 1 2 _ [.int .i64 4, .string ⟨#[]⟩, .int .i64 3] HX1.out rfl (by intro u hu; simp at hu; rcases hu with rfl | rfl | rfl <;> rfl) (by omega) (by omega)).mono ?_
  rintro e w2 ⟨g, b, cl, rfl, hC, hrow, hbg, hg, hb, hk⟩
  have HG := Aside0.mk (show w.heap.size ≤ g from Nat.le_trans HK1.out.to.size hg)
  have HBG := Aside0.mk hbg
  have HS2 := Aside0.mk (show St w g b cl 3 0 0 w2 from ⟨HK1.out.trans hk, hC, hrow 0 _ rfl, hrow 1 _ rfl, hrow 2 _ rfl⟩)
  clear hC hrow hbg hg hb hk HK1 HX1
  go_wp2_with fail
  refine (awake_calls w2).mono ?_
  rintro e w3 ⟨rfl, hk3⟩
  have HS3 := Aside0.mk (HS2.out.kpt hk3)
  clear hk3 HS2
  go_wp2_with fail
  go_loopw [7] (fun v7 wr => ∃ k : Nat, v7 = .int .i64 (k : Int) ∧ k ≤ xs.length ∧ ∃ since silent : Int, Aside0 (St w g b cl 3 since silent wr)) (fun v7 _ => (xs.length - (intOf v7)).toNat)
  case atStart => exact ⟨0, rfl, Nat.zero_le _, 0, 0, HS3⟩
  case round =>
    obtain ⟨k, rfl, hk, since, silent, HS⟩ := hrel
    rcases Nat.lt_or_ge k xs.length with hlt | hge
    · rcases Nat.lt_or_ge k 40 with h40 | h40
      · have hlt1 : ((k : Int) < (xs.length : Int)) = True := eq_true (by omega)
        have h401 : ((k : Int) < 40) = True := eq_true (by omega)
        obtain ⟨ad, hA, hx⟩ := int_at HX.out k _ (List.getElem?_eq_getElem hlt)
        subst hA
        replace hx := HS.out.kp.cell hx
        generalize xs[k] = z at hx
        go_wp2_with fail
        obtain ⟨st, hst, hs1, hs4⟩ := state_of z
        rw [hst]
        clear hst hx
        rcases Nat.lt_or_ge st 3 with hlo | hhi
        · have hg3 : decide ((st : Int) ≥ 3) = false := decide_eq_false (by omega)
          refine (told_wait w wr g b cl 3 since silent st HS.out HBG.out HG.out (by decide) (by omega)).mono ?_
          rintro e w4 ⟨rfl, hs⟩
          have HS4 := Aside0.mk hs
          clear hs
          go_wp2_with fail
          refine (ended_open w4 g 1 2 0 _ cl 0 since 0 _ HS4.out.c).mono ?_
          rintro e w' ⟨rfl, m, rfl⟩
          have HS5 := Aside0.mk (HS4.out.kpt ((Kp.refl w4).drewN m))
          generalize w4.drewN m = w5 at HS5 ⊢
          go_wp2_with fail
          refine (heard_none w5 g 1 2 0 _ 0 0 since 0 HS5.out.c).mono ?_
          rintro e w6 ⟨⟨A6, c6, rfl⟩, hb6⟩
          have HS6 := Aside0.mk (HS5.out.kpt (Kp.of_below hb6))
          clear hb6
          go_wp2_with fail
          go_roundw
          case rel => exact ⟨k + 1, by go_num, by omega, since, 0, HS6⟩
          case measure => simp [intOf]; omega
        · have hg3 : decide ((st : Int) ≥ 3) = true := decide_eq_true (by omega)
          refine (told_end w wr g b cl 3 since silent st HS.out HBG.out HG.out (by decide) hhi hs4).mono ?_
          rintro e w4 ⟨rfl, Av, cv, A4, c4, hC, hR, hk4⟩
          have HC4 := Aside0.mk hC
          have HR4 := Aside0.mk hR
          have HK4 := Aside0.mk hk4
          clear hC hR hk4
          go_wp2_with fail
          refine (heard_one w4 g 1 2 0 _ 1 0 0 0 Av cv _ A4 c4 HC4.out (Kd.R_reads' HR4.out).2.2 rfl).mono ?_
          rintro e w5 ⟨⟨q9, c9, cur, rfl, hq9, hcur⟩, hb9⟩
          have x3 : w5.cell? ⟨q9, 3, none⟩ = some (.int .i64 3) := (blk_cell hq9 3).trans (hcur 3 _ (by decide) rfl)
          have x4 : w5.cell? ⟨q9, 4, none⟩ = some (.int .i64 (st : Int)) := (blk_cell hq9 4).trans (hcur 4 _ (by decide) rfl)
          have HC5 := Aside0.mk (show Cli w5 g 1 2 0 (.slice (some ⟨b, 0, none⟩) 1 cl) 1 0 0 0 (.slice Av 1 cv) from blk_below HC4.out hb9)
          have HK5 := Aside0.mk (HK4.out.trans (Kp.of_below hb9))
          clear hq9 hcur hb9 HC4 HR4 HK4
          go_wp2_with fail
          refine (ended_shut w5 g 1 2 0 _ cl 0 0 0 _ HC5.out).mono ?_
          rintro e w' ⟨rfl, m, rfl⟩
          replace x3 : (w5.drewN m).cell? ⟨q9, 3, none⟩ = some (.int .i64 3) := x3
          replace x4 : (w5.drewN m).cell? ⟨q9, 4, none⟩ = some (.int .i64 (st : Int)) := x4
          go_wp2_with fail
          go_ret
          exact ⟨rfl, HK5.out.drewN m⟩
      · have hlt1 : ((k : Int) < (xs.length : Int)) = True := eq_true (by omega)
        have h401 : ((k : Int) < 40) = False := eq_false (by omega)
        go_wp2_with fail
        refine (ended_open wr g 1 2 0 _ cl 0 since silent _ HS.out.c).mono ?_
        rintro e w' ⟨rfl, m, rfl⟩
        go_wp2_with fail
        go_ret
        exact ⟨rfl, HS.out.kp.drewN m⟩
    · have hlt1 : ((k : Int) < (xs.length : Int)) = False := eq_false (by omega)
      go_wp2_with fail
      refine (ended_open wr g 1 2 0 _ cl 0 since silent _ HS.out.c).mono ?_
      rintro e w' ⟨rfl, m, rfl⟩
      go_wp2_with fail
      go_ret
      exact ⟨rfl, HS.out.kp.drewN m⟩
theorem waits_calls (w : World) (i0 : Int) (xs : List Int) (A : Option Addr) (c : Nat) (hC : Kd.C (Kd.int .i64) w A xs.length xs) :
    Calls Try.prog 12 #[.int .i64 i0, .slice A xs.length c] w fun e w' => e = .returned (.bool true) ∧ Kp w w' := by
  by_cases h0 : i0 < 0
  · exact waits_0 w i0 xs A c hC h0
  · by_cases h1 : i0 > 1073741824
    · exact waits_1 w i0 xs A c hC h0 h1
    · have e : i0 = ((i0.toNat : Nat) : Int) := by omega
      rw [e]
      exact waits_2 w i0.toNat xs A c hC (by omega)
end Go.Proofs.Ytbeefbhoccdicaa.CliZ
