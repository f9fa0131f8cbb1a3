/- A graph is checked: walked. -/
import Derived.Test.YtbeefbhoccdicaaAllG
import Derived.BigQuiet
namespace Go.Proofs.Ytbeefbhoccdicaa.CheckG
open Go.RowKit Go.Shelf Go.Proofs.YtbeefbhoccdicaaW.PrintWords Go.Proofs.YtbeefbhoccdicaaW.PrintLast Go.Proofs.YtbeefbhoccdicaaW.PrintMore Go.Proofs.Ytbeefbhoccdicaa.QGraphReads Go.Proofs.Ytbeefbhoccdicaa.WireNum Go.Proofs.Ytbeefbhoccdicaa.PutG Go.Proofs.Ytbeefbhoccdicaa.FindG Go.Proofs.Ytbeefbhoccdicaa.EdgesG Go.Proofs.Ytbeefbhoccdicaa.AllG
set_option linter.unusedVariables false

theorem edgesN_calls (w : World) (L : List S53) (A : Option Addr) (c : Nat) (hr : Kd.C k53 w A L.length L) :
    Calls Try.prog 19 #[.agg #[.slice A L.length c]] w fun e w' => e = .returned (.int .i64 (wrap64 (allOf L).length)) ∧ Below w.heap.size w w' :=
  (callsIn_wide (n := 3)).1 (edgesN_in _ 3 trivial trivial trivial rfl (by omega) w L A c hr)

/-- What checking a graph says. -/
def AllOk (l : List S53) : Prop := ∀ m, m < l.length → EdgesOk l (l.getD m z53).f2
def Checks (l : List S53) (r : Int) : Prop :=
  (256 < l.length ∧ r = 30) ∨ (l.length ≤ 256 ∧ ¬ Grows l ∧ r = 30) ∨ (l.length ≤ 256 ∧ Grows l ∧ 2048 < wrap64 (allOf l).length ∧ r = 31) ∨
  (l.length ≤ 256 ∧ Grows l ∧ wrap64 (allOf l).length ≤ 2048 ∧ ¬ AllOk l ∧ r = 31) ∨ (l.length ≤ 256 ∧ Grows l ∧ wrap64 (allOf l).length ≤ 2048 ∧ AllOk l ∧ r = 0)

theorem Checks.one {l : List S53} {r s : Int} (h : Checks l r) (k : Checks l s) : r = s := by
  unfold Checks at h k
  rcases h with ⟨a, rfl⟩ | ⟨a, b, rfl⟩ | ⟨a, b, c, rfl⟩ | ⟨a, b, c, d, rfl⟩ | ⟨a, b, c, d, rfl⟩ <;> rcases k with ⟨a', rfl⟩ | ⟨a', b', rfl⟩ | ⟨a', b', c', rfl⟩ | ⟨a', b', c', d', rfl⟩ | ⟨a', b', c', d', rfl⟩ <;> first | rfl | (exfalso; omega) | exact absurd ‹Grows l› ‹¬ Grows l› | exact absurd ‹AllOk l› ‹¬ AllOk l›

set_option maxHeartbeats 8000000 in
set_option maxRecDepth 100000 in
theorem check_calls (w : World) (l : List S53) (A : Option Addr) (c : Nat) (hr : Kd.C k53 w A l.length l) :
    Calls Try.prog 18 #[.agg #[.slice A l.length c]] w fun e w' => (∃ r, e = .returned (.int .i64 r) ∧ Checks l r) ∧ Below w.heap.size w w' := by
  have hmax : l.length ≤ 9223372036854775807 := hr.2.1
  generalize hw1 : w.alloc (.cells #[.slice A l.length c] 24) = w1
  have hz1 : w1.heap.size = w.heap.size + 1 := by rw [← hw1, World.size_alloc]
  have hbx1 : w1.heap[w.heap.size]? = some (.cells #[.slice A l.length c] 24 (0, 0)) := by rw [← hw1]; exact blk_new w _
  have hb1 : Below w.heap.size w w1 := by rw [← hw1]; exact below_alloc (Below.refl _ _) _
  have hc1 : w1.cell? ⟨w.heap.size, 0, none⟩ = some (.slice A l.length c) := (blk_cell hbx1 0).trans rfl
  have HR := Aside0.mk (Kd.C_below hr hb1)
  have HW1 := Aside0.mk hb1
  have BX1 := Aside0.mk hbx1
  clear hr hbx1 hb1
  rcases Nat.lt_or_ge 256 l.length with hbig | hn
  · have hbig1 : ((l.length : Int) > 256) = True := eq_true (by omega)
    go_enter Try.func18, Try.ntmps18
    go_wp2_with fail
    go_ret
    exact ⟨⟨30, rfl, .inl ⟨hbig, rfl⟩⟩, HW1.out⟩
  · have hsm1 : ((256 : Int) < (l.length : Int)) = False := eq_false (by omega)
    go_enter Try.func18, Try.ntmps18
    go_wp2_with fail
    go_loopw [14] (fun v14 wr => ∃ k : Nat, v14 = .int .i64 (k : Int) ∧ k ≤ l.length ∧ Aside0 (∀ m, m + 1 < k → idAt l m < idAt l (m + 1)) ∧ Aside0 (Below w1.heap.size w1 wr)) (fun v14 _ => (l.length - (intOf v14)).toNat)
    case atStart => exact ⟨0, rfl, Nat.zero_le _, ⟨fun m hm => by omega⟩, ⟨Below.refl _ _⟩⟩
    case round =>
      clear hw1
      obtain ⟨k, rfl, hk, HP, HB⟩ := hrel
      rcases Nat.lt_or_ge k l.length with hlt | hge
      · have hlt1 : ((k : Int) < (l.length : Int)) = True := eq_true (by omega)
        obtain ⟨ad, A2, c2, hA, hx0, hx1, hx2, hl2, hr2⟩ := at_T53 HR.out (k : Int) (by omega) (by omega)
        subst hA
        replace hx0 := (HB.out.cell (World.block_lt_of_cell? _ _ hx0)).trans hx0
        replace hx1 := (HB.out.cell (World.block_lt_of_cell? _ _ hx1)).trans hx1
        replace hx2 := (HB.out.cell (World.block_lt_of_cell? _ _ hx2)).trans hx2
        rw [Int.toNat_natCast] at hx0 hx1 hx2
        have hid : idAt l k = (rd_T53 l (k : Int)).f0 := rfl
        generalize rd_T53 l (k : Int) = ed at *
        clear hr2 hl2
        obtain ⟨o, ho⟩ : ∃ o, o = Obj.cells #[.int .i64 ed.f0, .int .i64 ed.f1, .slice A2 ed.f2.length c2] 53 := ⟨_, rfl⟩
        have HB2 := Aside0.mk (HB.out.alloc HB.out.size o)
        have HN := Aside0.mk ((blk_cell (by rw [ho]; exact blk_new wr _ : (wr.alloc o).heap[wr.heap.size]? = some (.cells #[.int .i64 ed.f0, .int .i64 ed.f1, .slice A2 ed.f2.length c2] 53 (0, 0))) 0).trans rfl)
        have HP1 := Aside0.mk ((blk_cell (blk_below BX1.out HB2.out) 0).trans rfl)
        rcases Nat.eq_zero_or_pos k with hk0 | hkp
        · have hkz : decide ((0 : Int) < (k : Int)) = false := decide_eq_false (by omega)
          have hkz2 : decide (0 < k) = false := decide_eq_false (by omega)
          have HK0 := Aside0.mk hk0
          clear hk0
          subst ho
          go_wp2_with fail
          have hn0 := HN.out
          have hp1 := HP1.out
          generalize wr.alloc (Obj.cells #[.int .i64 ed.f0, .int .i64 ed.f1, .slice A2 ed.f2.length c2] 53) = w5 at hn0 hp1 HB2 ⊢
          go_quiet (fail)
          go_wp2_with fail
          go_roundw
          case rel =>
            exact ⟨k + 1, by go_num, by omega, ⟨fun m hm => by have := HK0.out; omega⟩, ⟨pw_below_drewN HB2.out _⟩⟩
          case measure => simp [intOf]; omega
        · obtain ⟨q, hq⟩ : ∃ q, k = q + 1 := ⟨k - 1, by omega⟩
          have hkq : (k : Int) - 1 = (q : Int) := by omega
          have hkp1 : decide ((0 : Int) < (k : Int)) = true := decide_eq_true (by omega)
          have hkp2 : decide (0 < k) = true := decide_eq_true (by omega)
          have hlq : ((q : Int) < (l.length : Int)) = True := eq_true (by omega)
          have HQ := Aside0.mk hq
          obtain ⟨ad', A3, c3, hA', hx3, hx4, hx5, hl3, hr3⟩ := at_T53 HR.out (q : Int) (by omega) (by omega)
          clear hq hkp
          injection hA' with hA'
          subst hA'
          replace hx3 := (HB2.out.cell (World.block_lt_of_cell? _ _ hx3)).trans hx3
          rw [Int.toNat_natCast] at hx3
          have hidq : idAt l q = (rd_T53 l (q : Int)).f0 := rfl
          generalize rd_T53 l (q : Int) = eq at *
          clear hx4 hx5 hl3 hr3
          have HX3 := Aside0.mk hx3
          clear hx3
          subst ho
          go_wp2_with fail
          have hn0 := HN.out
          have hp1 := HP1.out
          have hx3 := HX3.out
          clear HX3 HN HP1
          generalize wr.alloc (Obj.cells #[.int .i64 ed.f0, .int .i64 ed.f1, .slice A2 ed.f2.length c2] 53) = w5 at hn0 hp1 hx3 HB2 ⊢
          go_quiet (fail)
          go_wp2_with fail
          · have hle : ed.f0 ≤ eq.f0 := by assumption
            go_ret
            refine ⟨⟨30, rfl, .inr (.inl ⟨hn, ?_, rfl⟩)⟩, below_then HW1.out (by omega) (pw_below_drewN HB2.out _)⟩
            intro hg
            have h := hg q (by have := HQ.out; omega)
            rw [← HQ.out, hid, hidq] at h
            omega
          · have hgt : eq.f0 < ed.f0 := by assumption
            go_roundw
            case rel =>
              refine ⟨k + 1, by go_num, by omega, ⟨?_⟩, ⟨pw_below_drewN HB2.out _⟩⟩
              intro m hm
              by_cases hmk : m + 1 = k
              · have hmq : m = q := by have := HQ.out; omega
                subst hmq
                rw [← HQ.out, hid, hidq]
                exact hgt
              · exact HP.out m (by omega)
            case measure => simp [intOf]; omega
      · have hk1 : k = l.length := by omega
        subst hk1
        clear hge
        have hg : Grows l := HP.out
        have HG := Aside0.mk hg
        clear hg
        have hb1 : wr.cell? ⟨w.heap.size, 0, none⟩ = some (.slice A l.length c) := (blk_cell (blk_below BX1.out HB.out) 0).trans rfl
        go_wp2_with fail
        refine (edgesN_calls _ l A c (Kd.C_below HR.out HB.out)).mono ?_
        rintro e w4 ⟨rfl, hB4⟩
        have HB4 := Aside0.mk (below_then HB.out HB.out.size hB4)
        clear hB4 hb1
        have hb1 : w4.cell? ⟨w.heap.size, 0, none⟩ = some (.slice A l.length c) := (blk_cell (blk_below BX1.out HB4.out) 0).trans rfl
        rcases Int.lt_or_le 2048 (wrap64 (allOf l).length) with hm | hm
        · have hm1 : (wrap64 ((allOf l).length : Int) > 2048) = True := eq_true hm
          have HM := Aside0.mk hm
          clear hm
          go_wp2_with fail
          go_ret
          exact ⟨⟨31, rfl, .inr (.inr (.inl ⟨hn, HG.out, HM.out, rfl⟩))⟩, below_then HW1.out (by omega) HB4.out⟩
        · have hm1 : ((2048 : Int) < wrap64 ((allOf l).length : Int)) = False := eq_false (by omega)
          have HM := Aside0.mk hm
          clear hm
          go_wp2_with fail
          go_loopw [40] (fun v40 wr => ∃ k : Nat, v40 = .int .i64 (k : Int) ∧ k ≤ l.length ∧ Aside0 (∀ m, m < k → EdgesOk l (l.getD m z53).f2) ∧ Aside0 (Below w1.heap.size w1 wr)) (fun v40 _ => (l.length - (intOf v40)).toNat)
          case atStart => exact ⟨0, rfl, Nat.zero_le _, ⟨fun m hm => by omega⟩, HB4⟩
          case round =>
            clear hm1 hb1
            obtain ⟨k, rfl, hk, HP, HB⟩ := hrel
            rcases Nat.lt_or_ge k l.length with hlt | hge
            · have hlt1 : ((k : Int) < (l.length : Int)) = True := eq_true (by omega)
              obtain ⟨ad, A2, c2, hA, hx0, hx1, hx2, hl2, hr2⟩ := at_T53 HR.out (k : Int) (by omega) (by omega)
              subst hA
              have HR2 := Aside0.mk hr2
              clear hr2
              replace hx0 := (HB.out.cell (World.block_lt_of_cell? _ _ hx0)).trans hx0
              replace hx1 := (HB.out.cell (World.block_lt_of_cell? _ _ hx1)).trans hx1
              replace hx2 := (HB.out.cell (World.block_lt_of_cell? _ _ hx2)).trans hx2
              rw [Int.toNat_natCast] at hx0 hx1 hx2
              have hed : l.getD k z53 = rd_T53 l (k : Int) := rfl
              generalize rd_T53 l (k : Int) = ed at *
              have HED := Aside0.mk hed
              clear hed
              have hb1 : wr.cell? ⟨w.heap.size, 0, none⟩ = some (.slice (some ad) l.length c) := (blk_cell (blk_below BX1.out HB.out) 0).trans rfl
              have hsz : w.heap.size + 1 ≤ wr.heap.size := by have := HB.out.size; omega
              have hne1 : (w.heap.size = wr.heap.size) = False := eq_false (by omega)
              have hne3 : w.heap.size < wr.heap.size := by omega
              go_wp2_with fail
              refine (edges_calls _ l ed.f0 ed.f1 ed.f2 (some ad) A2 c c2 (Kd.C_alloc (Kd.C_below HR.out HB.out) _) (Kd.C_alloc (Kd.C_below HR2.out HB.out) _) HG.out hn).mono ?_
              rintro e w4 ⟨⟨b, rfl, hT⟩, hB4⟩
              have HB4 := Aside0.mk (below_then (HB.out.alloc HB.out.size _) (by rw [World.size_alloc]; omega) hB4)
              have HT := Aside0.mk hT
              clear hB4 hT
              cases b
              · go_wp2_with fail
                go_ret
                refine ⟨⟨31, rfl, .inr (.inr (.inr (.inl ⟨hn, HG.out, HM.out, ?_, rfl⟩)))⟩, below_then HW1.out (by omega) HB4.out⟩
                intro h
                have h2 := h k hlt
                rw [HED.out] at h2
                have h3 := HT.out.2 h2
                cases h3
              · go_wp2_with fail
                go_roundw
                case rel =>
                  refine ⟨k + 1, by go_num, by omega, ⟨?_⟩, HB4⟩
                  intro m hm
                  by_cases hmk : m = k
                  · subst hmk
                    rw [HED.out]
                    exact HT.out.1 rfl
                  · exact HP.out m (by omega)
                case measure => simp [intOf]; omega
            · have hk1 : k = l.length := by omega
              subst hk1
              clear hge
              go_wp2_with fail
              go_ret
              exact ⟨⟨0, rfl, .inr (.inr (.inr (.inr ⟨hn, HG.out, HM.out, HP.out, rfl⟩)))⟩, below_then HW1.out (by omega) HB.out⟩
end Go.Proofs.Ytbeefbhoccdicaa.CheckG
