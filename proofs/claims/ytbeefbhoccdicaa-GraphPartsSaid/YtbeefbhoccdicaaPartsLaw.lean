/- GraphParts: the law's own code, walked. -/
import Derived.Test.YtbeefbhoccdicaaPartsM
import Derived.Test.YtbeefbhoccdicaaAwakeG
import Derived.Test.YtbeefbhoccdicaaRefCheck
import Derived.Deep.DeepCutAuto
import Derived.Deep.CutBlock
import Derived.BigQuiet
namespace Go.Proofs.Ytbeefbhoccdicaa.PartsLaw
open Go.RowKit Go.Shelf Go.Proofs.YtbeefbhoccdicaaW.PrintWords Go.Proofs.YtbeefbhoccdicaaW.PrintLast Go.Proofs.YtbeefbhoccdicaaW.PrintMore Go.Proofs.Ytbeefbhoccdicaa.QGraphReads Go.Proofs.Ytbeefbhoccdicaa.WireNum Go.Proofs.Ytbeefbhoccdicaa.PutG Go.Proofs.Ytbeefbhoccdicaa.FindG Go.Proofs.Ytbeefbhoccdicaa.EdgesG Go.Proofs.Ytbeefbhoccdicaa.AllG Go.Proofs.Ytbeefbhoccdicaa.CheckG Go.Proofs.Ytbeefbhoccdicaa.SameG Go.Proofs.Ytbeefbhoccdicaa.RefCheck Go.Proofs.Ytbeefbhoccdicaa.RefSpec Go.Proofs.Ytbeefbhoccdicaa.PartG Go.Proofs.Ytbeefbhoccdicaa.OfG Go.Proofs.Ytbeefbhoccdicaa.PlainO Go.Proofs.Ytbeefbhoccdicaa.PartsH
attribute [local go_sem] Oper.semAt_some
attribute [local go_sem high] eqA67
set_option linter.unusedVariables false
set_option linter.unusedSimpArgs false

def T30 : Bool × List (List Nat × List Nat) := (true, [([], []), ([], []), ([1], [1]), ([], []), ([2, 3], [2, 3]), ([4], [4]), ([5], [5]), ([6], [6]), ([0, 7], [0, 7]), ([], []), ([], []), ([10], [10]), ([], []), ([11, 12], [11, 12]), ([13], [13]), ([14], [14]), ([], []), ([15, 16], [15, 16]), ([17], [17]), ([18], [18]), ([9, 19, 8], [9, 19]), ([8, 20, 0, 1, 2, 3, 4, 5, 6, 7, 8], [8]), ([20, 21, 0, 1, 2, 3, 4, 5, 6, 7, 8, 9, 10, 11, 12, 13, 14, 15, 16, 17, 18, 19, 20, 21], [20])])
def B30 : List Nat := [0, 0, 2, 0, 14, 30, 62, 126, 255, 0, 0, 1024, 0, 7168, 15360, 31744, 0, 130048, 261120, 523264, 1048575, 2097151, 4194303]
theorem tab30 : rtab .any (opsOf Try.f6 30) = T30 := by kernel_rfl
theorem bits30 : waitsOk T30.2 B30 = true := by kernel_rfl
set_option maxHeartbeats 16000000 in
set_option maxRecDepth 100000 in
theorem law_in (n : Nat) (hn3 : 3 ≤ n) (w : World) (L : List S53) (A : Option Addr) (c : Nat) (parts stop : Int) (hc : L.length ≤ c) (hr : Kd.C k53 w A L.length L) (hv : ∀ v ∈ L, v.f2.length * 16 ≤ 140737488351232) (hl : L.length * 40 ≤ 140737488351232) :
    CallsIn Fence.wide n Try.prog 6 #[.agg #[.slice A L.length c], .int .i64 parts, .int .i64 stop] w fun e w' => e = .returned (.bool true) ∧ Below w.heap.size w w' := by
  have h1n : 1 ≤ n := by omega
  have hev : ∀ v ∈ L, v.f2.length ≤ 8796093022208 := fun v hm => by have := hv v hm; omega
  obtain ⟨kc, r, hkc0, hck⟩ := ref_check L (fun v hm => by have := hev v hm; omega)
  obtain ⟨kr, hkr0⟩ := ref_ref L (by omega) hev
  obtain ⟨M, hM⟩ : ∃ M, L.map r59 = M := ⟨_, rfl⟩
  rw [hM] at hkc0 hkr0
  have hkc := Aside0.mk hkc0
  have hkr := Aside0.mk hkr0
  have HV := Aside0.mk hv
  have HL := Aside0.mk hl
  have HCK := Aside0.mk hck
  have HR0 := Aside0.mk hr
  clear hr hkc0 hkr0 hck hM hv hl hev
  refine callsIn_of_wp_marks Try.func6 rfl trivial ?_ rfl
  simp only [Try.ntmps6, List.size_toArray, List.length_cons, List.length_nil, Nat.reduceAdd, Nat.reduceSub, Array.replicate_succ, Array.replicate_zero, List.push_toArray, List.append_toArray, List.nil_append, List.cons_append]
  refine wpIn_wide.2 (Code.wp_mono (fun _ _ _ => calm_imp) ?_)
  go_wp2_with fail
  obtain ⟨w1, hw1⟩ : ∃ w1, ((w.alloc (.cells #[.slice A L.length c] 24)).alloc (.cells #[.int .i64 stop] 3)).alloc (.cells #[.bool false] 4) = w1 := ⟨_, rfl⟩
  have HX1 : Aside0 (Fx w A L.length c stop w1) := by
    constructor
    rw [← hw1]
    have h1 := blk_alloc (blk_alloc (blk_new w (.cells #[.slice A L.length c] 24)) (.cells #[.int .i64 stop] 3)) (.cells #[.bool false] 4)
    have h2 := blk_alloc (blk_new (w.alloc (.cells #[.slice A L.length c] 24)) (.cells #[.int .i64 stop] 3)) (.cells #[.bool false] 4)
    have h3 := blk_new ((w.alloc (.cells #[.slice A L.length c] 24)).alloc (.cells #[.int .i64 stop] 3)) (.cells #[.bool false] 4)
    rw [World.size_alloc] at h2
    rw [World.size_alloc, World.size_alloc] at h3
    exact ⟨below_alloc (below_alloc (below_alloc (Below.refl _ _) _) _) _, h1, h2, h3⟩
  rw [hw1]
  clear hw1
  refine (AwakeG.awake_calls w1).mono ?_
  rintro e w2 ⟨rfl, hb2⟩
  have HX2 := Aside0.mk (HX1.out.step hb2)
  have hc2 := HX2.out.gc
  clear hb2 HX1
  go_wp2_with fail
  refine (cohortlaw03_Ref.calls kr A c L M w2 (Kd.C_below HR0.out HX2.out.b) hc hkr.out).mono ?_
  rintro e w3 ⟨u3, rfl, hS3, hb3⟩
  obtain ⟨A3, c3, hA3, hl3, hC3⟩ := Kd.S_reads hS3
  subst hA3
  have HX3 := Aside0.mk (HX2.out.step hb3)
  clear hS3 hb3 HX2 hc2
  go_wp2_with fail
  refine (cohortref03_Check.calls kc A3 c3 M r w3 hC3 hl3 hkc.out).mono ?_
  rintro e w4 ⟨rfl, hd⟩
  have HX4 := Aside0.mk (HX3.out.step hd.below)
  have hf4 := HX4.out.fc
  clear hd hC3 hl3 HX3
  by_cases h0 : r = 0
  case neg =>
    have hbad : (r != 0) = true := bne_iff_ne.2 h0
    clear h0
    go_wp2_with fail
    refine (AwakeG.awake_calls w4).mono ?_
    rintro e w5 ⟨rfl, hb5⟩
    have HX5 := Aside0.mk (HX4.out.step hb5)
    have hf5 := HX5.out.fc
    have hz5 := blk_frozen HX5.out.f 0
    clear hb5 hf4
    go_wp2_with fail
    exact HX5.out.done _ rfl
  case pos =>
  subst h0
  have hgn : Grows L ∧ L.length ≤ 256 := by
    have h := HCK.out
    unfold Checks at h
    rcases h with ⟨_, h⟩ | ⟨_, _, h⟩ | ⟨_, _, _, h⟩ | ⟨_, _, _, _, h⟩ | ⟨h1, h2, _⟩
    · omega
    · omega
    · omega
    · omega
    · exact ⟨h2, h1⟩
  have hal : wrap64 (allOf L).length ≤ 2048 := by
    have h := HCK.out
    unfold Checks at h
    rcases h with ⟨_, h⟩ | ⟨_, _, h⟩ | ⟨_, _, _, h⟩ | ⟨_, _, _, _, h⟩ | ⟨_, _, h, _⟩ <;> first | omega | exact h
  have HG := Aside0.mk hgn.1
  have hn := hgn.2
  have HAL := Aside0.mk hal
  clear hgn HCK hal
  by_cases hp100 : 100 < parts
  case pos =>
    have hbig : decide (parts > 100) = true := decide_eq_true hp100
    clear hp100
    go_wp2_with fail
    refine (AwakeG.awake_calls w4).mono ?_
    rintro e w5 ⟨rfl, hb5⟩
    have HX5 := Aside0.mk (HX4.out.step hb5)
    have hf5 := HX5.out.fc
    have hz5 := blk_frozen HX5.out.f 0
    clear hb5 hf4
    go_wp2_with fail
    exact HX5.out.done _ rfl
  case neg =>
  have hbig : decide (parts > 100) = false := decide_eq_false (by omega)
  obtain ⟨q, hq⟩ : ∃ q : Int, q = if parts < 1 then 1 else parts := ⟨_, rfl⟩
  have hq1 : 1 ≤ q := by rw [hq]; split <;> omega
  have hq2 : q ≤ 100 := by rw [hq]; split <;> omega
  have HQ := Aside0.mk hq
  have hp100' : parts ≤ 100 := by omega
  clear hp100 hq
  go_upto_if 34 with fail
  go_cut [1] from 33 to 34 (fun s1 wx => s1 = .int .i64 q ∧ w4 = wx)
  case first =>
    go_wp2_with fail
    · have hlt : parts < 1 := by assumption
      go_meet
      case rel => exact ⟨by rw [HQ.out, if_pos hlt], rfl⟩
    · have hlt : ¬ parts < 1 := by omega
      go_meet
      case rel => exact ⟨by rw [HQ.out, if_neg hlt], rfl⟩
  case rest =>
  obtain ⟨rfl, rfl⟩ := hcut
  clear hbig hp100' HQ
  go_upto_block 0 with fail
  obtain ⟨vs, hrows, hraw⟩ := rows_of HR0.out
  have HROWS := Aside0.mk hrows
  have HRAW := Aside0.mk hraw
  have hvl : vs.length = L.length := hrows.1
  clear hrows hraw
  go_cut [7, 8, 9, 10, 12, 13, 14] from 35 to 98 (fun s7 s8 s9 s10 s12 s13 s14 wx => s7 = .int .i64 (L.length : Int) ∧ Aside0 (Fx w A L.length c stop wx))
  case first =>
    go_wp2_with fail
    go_loopw [7, 8] (fun v7 v8 wr => ∃ p : Nat, v8 = .int .i64 (p : Int) ∧ (p : Int) ≤ q ∧ v7 = .int .i64 ((under vs (p : Int) q : Nat) : Int) ∧ Aside0 (Fx w A L.length c stop wr)) (fun v7 v8 _ => (q - (intOf v8)).toNat)
    case atStart => exact ⟨0, rfl, by omega, by rw [show ((0 : Nat) : Int) = 0 from rfl, under_zero vs hq1 (by omega)]; rfl, HX4⟩
    case round =>
      obtain ⟨p, rfl, hp, rfl, HXr⟩ := hrel
      rcases Int.lt_or_le (p : Int) q with hlt | hge
      · have hlt1 : ((p : Int) < q) = True := eq_true hlt
        have hcr := HXr.out.gc
        clear hf4
        go_wp2_with fail
        have hoc := of_calls wr vs A c (p : Int) q (Kd.C_below HRAW.out HXr.out.b) (by rw [hvl]; have := HL.out; omega)
        rw [hvl] at hoc
        refine hoc.mono ?_
        clear hoc
        rintro e w5 ⟨A2, c2, rfl, hC5, hb5⟩
        have hu1 := under_step vs (p : Int) q
        have hu2 := under_le vs ((p : Int) + 1) q
        obtain ⟨l, hl⟩ : ∃ l, ofP vs (p : Int) q = l := ⟨_, rfl⟩
        rw [hl] at hC5 hu1 ⊢
        have hlk : ∀ k, k < l.length → ∃ j, j < L.length ∧ lowR L (l.getD k zv).id = j ∧ isR L (l.getD k zv).id = true ∧ (L.getD j z53).f1 = (l.getD k zv).val ∧ PartG.part (l.getD k zv).id q = (p : Int) := by
          intro k hk
          rw [← hl] at hk ⊢
          exact of_at HROWS.out HG.out hk
        have hgr : ∀ k, k + 1 < l.length → (l.getD k zv).id < (l.getD (k + 1) zv).id := by
          intro k hk
          rw [← hl] at hk ⊢
          exact of_grows HROWS.out HG.out _ _ hk
        have HLK := Aside0.mk hlk
        have HGR := Aside0.mk hgr
        obtain ⟨up, hup⟩ : ∃ up, under vs (p : Int) q = up := ⟨_, rfl⟩
        rw [hup] at hu1 ⊢
        have hup1 : ((under vs (((p + 1 : Nat) : Int)) q : Nat) : Int) = (up : Int) + (l.length : Int) := by
          rw [show ((p + 1 : Nat) : Int) = (p : Int) + 1 from by omega, hu1]; omega
        have HUP := Aside0.mk hup1
        have hul : up + l.length ≤ 256 := by omega
        have HX5 := Aside0.mk (HXr.out.step hb5)
        have HC5 := Aside0.mk hC5
        clear hup hu1 hu2 hl hlk hgr hC5 hb5 hup1 HXr hcr
        go_wp2_with fail
        go_loopw [45, 7, 9, 10] (fun v45 v7 v9 v10 wr => ∃ (k : Nat) (lst : Int) (sm : Bool), v45 = .int .i64 (k : Int) ∧ k ≤ l.length ∧ v7 = .int .i64 ((up : Int) + (k : Int)) ∧ v9 = .int .i64 lst ∧ v10 = .bool sm ∧ Aside0 (sm = true → 0 < k ∧ lst = (l.getD (k - 1) zv).id) ∧ Aside0 (Below w5.heap.size w5 wr)) (fun v45 _ _ _ _ => (l.length - (intOf v45)).toNat)
        case atStart => exact ⟨0, 0, false, rfl, Nat.zero_le _, by rw [show ((0 : Nat) : Int) = 0 from rfl, Int.add_zero], rfl, rfl, ⟨fun h => by cases h⟩, ⟨Below.refl _ _⟩⟩
        case round =>
          obtain ⟨k, lst, sm, rfl, hk, rfl, rfl, rfl, HSM, HB⟩ := hrel
          rcases Nat.lt_or_ge k l.length with hkl | hkg
          · have hkl1 : ((k : Int) < (l.length : Int)) = True := eq_true (by omega)
            obtain ⟨ad, hA, hx0, hx1, hx2⟩ := at_raw HC5.out k hkl
            subst hA
            replace hx0 := (HB.out.cell (World.block_lt_of_cell? _ _ hx0)).trans hx0
            replace hx1 := (HB.out.cell (World.block_lt_of_cell? _ _ hx1)).trans hx1
            replace hx2 := (HB.out.cell (World.block_lt_of_cell? _ _ hx2)).trans hx2
            obtain ⟨j, hj, hlow, his, hval, hprt⟩ := HLK.out k hkl
            obtain ⟨x, hx⟩ : ∃ x, l.getD k zv = x := ⟨_, rfl⟩
            rw [hx] at hx0 hx1 hx2 hlow his hval hprt
            have HX := Aside0.mk hx
            have HJ := Aside0.mk hlow
            have HIS := Aside0.mk his
            have HVAL := Aside0.mk hval
            have HPRT := Aside0.mk hprt
            have hsz5 : w5.heap.size ≤ wr.heap.size := HB.out.size
            clear hx hlow his hval hprt
            have HXR := Aside0.mk (HX5.out.step HB.out)
            have hcr := HXR.out.gc
            have hlr : w.heap.size < wr.heap.size := by have := HXR.out.lt; omega
            have hner : (w.heap.size = wr.heap.size) = False := eq_false (by omega)
            go_wp2_with fail
            have HN6 := Aside0.mk (blk_new wr (.cells #[.int .i64 x.id, .int .i64 x.val, .slice x.A x.n x.c] 53))
            have HB6 := Aside0.mk (below_alloc HB.out (.cells #[.int .i64 x.id, .int .i64 x.val, .slice x.A x.n x.c] 53))
            generalize wr.alloc (.cells #[.int .i64 x.id, .int .i64 x.val, .slice x.A x.n x.c] 53) = w6 at HN6 HB6 ⊢
            have hfc := find_calls w6 L x.id A c (Kd.C_below HR0.out (HX5.out.step HB6.out).b) HG.out hn
            rw [HJ.out, HIS.out] at hfc
            refine hfc.mono ?_
            clear hfc
            rintro e w7 ⟨rfl, hb7⟩
            have HN7 := Aside0.mk (blk_below HN6.out hb7)
            have HB7 := Aside0.mk (below_then HB6.out HB6.out.size hb7)
            have HX7 := Aside0.mk (HX5.out.step HB7.out)
            have hc7 := HX7.out.gc
            have hz0 : w7.cell? ⟨wr.heap.size, 0, none⟩ = some (.int .i64 x.id) := (blk_cell HN7.out 0).trans rfl
            have hz1 : w7.cell? ⟨wr.heap.size, 1, none⟩ = some (.int .i64 x.val) := (blk_cell HN7.out 1).trans rfl
            obtain ⟨adg, A9, c9, hAg, hy0, hy1, hy2, hl9, hr9⟩ := at_T53 (Kd.C_below HR0.out HX7.out.b) (j : Int) (by omega) (by omega)
            subst hAg
            rw [Int.toNat_natCast] at hy0 hy1 hy2
            have hvj : (rd_T53 L (j : Int)).f1 = x.val := HVAL.out
            rw [hvj] at hy1
            have hj1 : ((j : Int) < (L.length : Int)) = True := eq_true (by omega)
            have hj2 : (0 : Int) ≤ (j : Int) ∧ (j : Int) < (L.length : Int) := ⟨by omega, by omega⟩
            clear hb7 HN6 HB6 hcr hner hlr hx0 hx1 hx2 HXR hl9 hr9 hvj hy0 hy2
            go_wp2_with fail
            cases sm
            case false =>
              go_quiet (first | (go_at_call 37; exact Calls.quiet_of_same (part_q _ _ _ _ HPRT.out)) | (go_at_call 38; exact Calls.quiet_of_same (ref_q _ _ _ _ HPRT.out)))
              go_wp2_with fail
              go_roundw
              case rel => exact ⟨k + 1, x.id, true, by go_num, by omega, by go_num, rfl, rfl, ⟨fun _ => ⟨by omega, by rw [Nat.add_sub_cancel, HX.out]⟩⟩, ⟨pw_below_drewN HB7.out _⟩⟩
              case measure => simp [intOf]; omega
            case true =>
              have hlq : decide (x.id ≤ lst) = false := by
                obtain ⟨hk0, hk1⟩ := HSM.out rfl
                have hh := HGR.out (k - 1) (by omega)
                rw [show k - 1 + 1 = k from by omega, HX.out] at hh
                exact decide_eq_false (by omega)
              go_quiet (first | (go_at_call 37; exact Calls.quiet_of_same (part_q _ _ _ _ HPRT.out)) | (go_at_call 38; exact Calls.quiet_of_same (ref_q _ _ _ _ HPRT.out)))
              go_wp2_with fail
              go_roundw
              case rel => exact ⟨k + 1, x.id, true, by go_num, by omega, by go_num, rfl, rfl, ⟨fun _ => ⟨by omega, by rw [Nat.add_sub_cancel, HX.out]⟩⟩, ⟨pw_below_drewN HB7.out _⟩⟩
              case measure => simp [intOf]; omega
          · obtain rfl : k = l.length := by omega
            have HX6 := Aside0.mk (HX5.out.step HB.out)
            clear hkg
            go_wp2_with fail
            go_roundw
            case rel => exact ⟨p + 1, by go_num, by omega, by rw [HUP.out], HX6⟩
            case measure => simp [intOf]; omega
      · have hpq : (p : Int) = q := by omega
        have hpl : under vs (p : Int) q = L.length := by rw [hpq, under_all vs hq1 (by omega), hvl]
        have hlt1 : ((p : Int) < q) = False := eq_false (by omega)
        have HPL := Aside0.mk hpl
        clear hpl hpq hge
        go_wp2_with fail
        go_meet
        case rel => exact ⟨by rw [HPL.out], HXr⟩
  case rest =>
  obtain ⟨rfl, HXc⟩ := hcut
  obtain ⟨wk, hwk⟩ : ∃ wk, wk = wc := ⟨_, rfl⟩
  subst hwk
  clear hf4 HX4
  go_upto_block 4 with fail
  go_cut [18, 19] from 101 to 139 (fun s18 s19 wx => Aside0 (Gx w A L.length c stop wk.heap.size 0 (allOf L) wx))
  case first =>
    obtain ⟨wd, hwd⟩ : ∃ wd, ((((wk.alloc (.cells #[.int .i64 0] 3)).alloc (.cells #[] 2)).alloc (.cells #[.slice (some ⟨wk.heap.size + 1, 0, none⟩) 0 0] 65)).alloc (.cells #[] 67)).alloc (.cells #[.slice (some ⟨wk.heap.size + 1 + 1 + 1, 0, none⟩) 0 0] 51) = wd := ⟨_, rfl⟩
    have HG0 : Aside0 (Gx w A L.length c stop wk.heap.size 0 (allOf (L.take 0)) wd) := by
      constructor
      rw [← hwd]
      have hb := below_alloc (below_alloc (below_alloc (below_alloc (below_alloc (Below.refl wk.heap.size wk) (.cells #[.int .i64 0] 3)) (.cells #[] 2)) (.cells #[.slice (some ⟨wk.heap.size + 1, 0, none⟩) 0 0] 65)) (.cells #[] 67)) (.cells #[.slice (some ⟨wk.heap.size + 1 + 1 + 1, 0, none⟩) 0 0] 51)
      have h1 := blk_alloc (blk_alloc (blk_alloc (blk_alloc (blk_new wk (.cells #[.int .i64 0] 3)) (.cells #[] 2)) (.cells #[.slice (some ⟨wk.heap.size + 1, 0, none⟩) 0 0] 65)) (.cells #[] 67)) (.cells #[.slice (some ⟨wk.heap.size + 1 + 1 + 1, 0, none⟩) 0 0] 51)
      have h2 := blk_alloc (blk_alloc (blk_alloc (blk_new (wk.alloc (.cells #[.int .i64 0] 3)) (.cells #[] 2)) (.cells #[.slice (some ⟨wk.heap.size + 1, 0, none⟩) 0 0] 65)) (.cells #[] 67)) (.cells #[.slice (some ⟨wk.heap.size + 1 + 1 + 1, 0, none⟩) 0 0] 51)
      have h3 := blk_alloc (blk_alloc (blk_new ((wk.alloc (.cells #[.int .i64 0] 3)).alloc (.cells #[] 2)) (.cells #[.slice (some ⟨wk.heap.size + 1, 0, none⟩) 0 0] 65)) (.cells #[] 67)) (.cells #[.slice (some ⟨wk.heap.size + 1 + 1 + 1, 0, none⟩) 0 0] 51)
      have h4 := blk_alloc (blk_new (((wk.alloc (.cells #[.int .i64 0] 3)).alloc (.cells #[] 2)).alloc (.cells #[.slice (some ⟨wk.heap.size + 1, 0, none⟩) 0 0] 65)) (.cells #[] 67)) (.cells #[.slice (some ⟨wk.heap.size + 1 + 1 + 1, 0, none⟩) 0 0] 51)
      have h5 := blk_new ((((wk.alloc (.cells #[.int .i64 0] 3)).alloc (.cells #[] 2)).alloc (.cells #[.slice (some ⟨wk.heap.size + 1, 0, none⟩) 0 0] 65)).alloc (.cells #[] 67)) (.cells #[.slice (some ⟨wk.heap.size + 1 + 1 + 1, 0, none⟩) 0 0] 51)
      simp only [World.size_alloc] at h1 h2 h3 h4 h5
      exact ⟨_, _, ⟨HXc.out.step hb, HXc.out.lt, h1, h3, h5⟩, R_empty _ _ _ _ _ (by omega) h2, R_empty _ _ _ _ _ (by omega) h4⟩
    rw [hwd]
    clear hwd
    go_wp2_with fail
    go_loopw [18] (fun v18 wr => ∃ i : Nat, v18 = .int .i64 (i : Int) ∧ i ≤ L.length ∧ Aside0 (Gx w A L.length c stop wk.heap.size 0 (allOf (L.take i)) wr)) (fun v18 _ => (L.length - (intOf v18)).toNat)
    case atStart => exact ⟨0, rfl, Nat.zero_le _, HG0⟩
    case round =>
      obtain ⟨i, rfl, hi, HGr⟩ := hrel
      obtain ⟨v16, v17, hh, hr16, hr17⟩ := HGr.out
      have hcg := hh.fx.gc
      rcases Nat.lt_or_ge i L.length with hil | hig
      · have hil1 : ((i : Int) < (L.length : Int)) = True := eq_true (by omega)
        have hi2 : (0 : Int) ≤ (i : Int) ∧ (i : Int) < (L.length : Int) := ⟨by omega, by omega⟩
        obtain ⟨ad, A2, c2, hA, hx0, hx1, hx2, hl2, hr2⟩ := at_T53 HR0.out (i : Int) (by omega) (by omega)
        subst hA
        rw [Int.toNat_natCast] at hx0 hx1 hx2
        have hed : L.getD i z53 = rd_T53 L (i : Int) := rfl
        generalize rd_T53 L (i : Int) = ed at *
        have HED := Aside0.mk hed
        have HE2 := Aside0.mk hr2
        have HX0 := Aside0.mk hx0
        have HX2 := Aside0.mk hx2
        have hz2 := (hh.fx.b.cell (World.block_lt_of_cell? _ _ hx2)).trans hx2
        have hmx2 : ed.f2.length ≤ 9223372036854775807 := hr2.2.1
        clear hed hr2 hx0 hx1 hx2 hl2 hh hr16 hr17
        go_wp2_with fail
        go_loopw [19] (fun v19 wr => ∃ j : Nat, v19 = .int .i64 (j : Int) ∧ j ≤ ed.f2.length ∧ Aside0 (Gx w (some ad) L.length c stop wk.heap.size 0 (allOf (L.take i) ++ (ofV ed).take j) wr)) (fun v19 _ => (ed.f2.length - (intOf v19)).toNat)
        case atStart => exact ⟨0, rfl, Nat.zero_le _, ⟨by rw [List.take_zero, List.append_nil]; exact HGr.out⟩⟩
        case round =>
          clear hz2 hcg
          obtain ⟨j, rfl, hj, HGs⟩ := hrel
          obtain ⟨xs, hxs⟩ : ∃ xs, allOf (L.take i) ++ (ofV ed).take j = xs := ⟨_, rfl⟩
          rw [hxs] at HGs
          have HXS := Aside0.mk hxs
          clear hxs
          obtain ⟨v16, v17, hh, hr16, hr17⟩ := HGs.out
          have HH := Aside0.mk hh
          have HR16 := Aside0.mk hr16
          have HR17 := Aside0.mk hr17
          have hcg := hh.fx.gc
          have hz2 := (hh.fx.b.cell (World.block_lt_of_cell? _ _ HX2.out)).trans HX2.out
          clear hh hr16 hr17
          rcases Nat.lt_or_ge j ed.f2.length with hjl | hjg
          · have hjl1 : ((j : Int) < (ed.f2.length : Int)) = True := eq_true (by omega)
            have hj2 : (0 : Int) ≤ (j : Int) ∧ (j : Int) < (ed.f2.length : Int) := ⟨by omega, by omega⟩
            obtain ⟨ad2, hA2, hy0, hy1⟩ := at_T67 HE2.out (j : Int) (by omega) (by omega)
            subst hA2
            rw [Int.toNat_natCast] at hy0 hy1
            have hee : ed.f2.getD j z67 = rd_T67 ed.f2 (j : Int) := rfl
            generalize rd_T67 ed.f2 (j : Int) = ee at *
            have HEE := Aside0.mk hee
            have HS : Aside0 (∀ w' : World, Hx w (some ad) L.length c stop wk.heap.size 0 v16 v17 w' → (fun w' => w'.cell? ⟨wk.heap.size + 1 + 1, 0, none⟩ = some v16 ∧ w'.cell? ⟨wk.heap.size + 1 + 1 + 1 + 1, 0, none⟩ = some v17 ∧ w'.cell? ⟨w.heap.size, 0, none⟩ = some (.slice (some ad) L.length c) ∧ w'.cell? (ad.add (i * 3)) = some (.int .i64 ed.f0) ∧ w'.cell? ⟨(ad.add (i * 3)).block, (ad.add (i * 3)).off + 2, none⟩ = some (.slice (some ad2) ed.f2.length c2) ∧ w'.cell? (ad2.add (j * 2)) = some (.int .i64 ee.f0) ∧ w'.cell? ⟨(ad2.add (j * 2)).block, (ad2.add (j * 2)).off + 1, none⟩ = some (.int .i64 ee.f1)) w') := by
              constructor
              intro w' h
              exact ⟨h.c16, h.c17, h.fx.gc, (h.fx.b.cell (World.block_lt_of_cell? _ _ HX0.out)).trans HX0.out, (h.fx.b.cell (World.block_lt_of_cell? _ _ HX2.out)).trans HX2.out, (h.fx.b.cell (World.block_lt_of_cell? _ _ hy0)).trans hy0, (h.fx.b.cell (World.block_lt_of_cell? _ _ hy1)).trans hy1⟩
            have HXL : Aside0 (xs.length + 1 ≤ 2048) := by
              constructor
              have h1 := allOf_small HAL.out hn (fun v hm => by have := HV.out v hm; omega)
              have h2 := pre_len L i hil j (by rw [HED.out]; exact hjl)
              rw [HED.out, HXS.out] at h2
              omega
            clear hee hy0 hy1
            go_wp2_with fail
            have HHd := Aside0.mk (HH.out.kpt (kpT_drew (ts := fun _ => True)) trivial trivial trivial trivial trivial)
            have HR16d := Aside0.mk (Kd.R_drew HR16.out)
            have HR17d := Aside0.mk (Kd.R_drew HR17.out)
            clear HH HR16 HR17 hcg hz2
            refine start_ (n := 23) (S := fun w' => w'.cell? ⟨wk.heap.size + 1 + 1, 0, none⟩ = some v16 ∧ w'.cell? ⟨wk.heap.size + 1 + 1 + 1 + 1, 0, none⟩ = some v17 ∧ w'.cell? ⟨w.heap.size, 0, none⟩ = some (.slice (some ad) L.length c) ∧ w'.cell? (ad.add (i * 3)) = some (.int .i64 ed.f0) ∧ w'.cell? ⟨(ad.add (i * 3)).block, (ad.add (i * 3)).off + 2, none⟩ = some (.slice (some ad2) ed.f2.length c2) ∧ w'.cell? (ad2.add (j * 2)) = some (.int .i64 ee.f0) ∧ w'.cell? ⟨(ad2.add (j * 2)).block, (ad2.add (j * 2)).off + 1, none⟩ = some (.int .i64 ee.f1)) (ds := [21, 22]) #[false, false, false, false, false, false, false, false, false, false, false, false, false, false, false, false, false, false, false, false, false, false, false] (by kernel_rfl) rfl rfl (HS.out _ HHd.out) (fun hHeld => ?_)
            refine with_tabW tab30 bits30 (fun HT_ HW_ => ?_)
            generalize wr.drew = w2 at HHd HR16d HR17d hHeld ⊢
            refine take_ (i := 0) (N := some 119) (v := ?_) (a' := ?_) #[true, false, false, false, false, false, false, false, false, false, false, false, false, false, false, false, false, false, false, false, false, false, false] rfl rfl (take_ofW HT_.out HW_.out (by kernel_rfl)) (fun _ _ _ h => h) (Or.inl ⟨by rfl, ?_⟩) hHeld ?_ ?_
            rotate_left
            · intro w' s0
              go_simp
              with_reducible rfl
            rotate_left
            · simp only [Act.put, List.setIfInBounds_toArray, List.set_cons_zero, List.set_cons_succ, i64_w, i32_w]
              rfl
            refine pure_ (i := 1) (N := some 120) (v := ?_) (a' := ?_) #[true, true, false, false, false, false, false, false, false, false, false, false, false, false, false, false, false, false, false, false, false, false, false] rfl rfl (any_of HT_.out (by kernel_rfl)) (fun _ _ _ h => h) (Or.inl ⟨by rfl, ?_⟩) ?_ ?_
            rotate_left
            · intro w'
              go_simp
              with_reducible rfl
            rotate_left
            · simp only [Act.put, List.setIfInBounds_toArray, List.set_cons_zero, List.set_cons_succ, i64_w, i32_w]
              rfl
            refine take_ (i := 2) (N := some 121) (v := ?_) (a' := ?_) #[true, true, true, false, false, false, false, false, false, false, false, false, false, false, false, false, false, false, false, false, false, false, false] rfl rfl (take_ofW HT_.out HW_.out (by kernel_rfl)) (fun _ _ _ h => h) (Or.inl ⟨by rfl, ?_⟩) hHeld ?_ ?_
            rotate_left
            · intro w' s0
              go_simp
              with_reducible rfl
            rotate_left
            · simp only [Act.put, List.setIfInBounds_toArray, List.set_cons_zero, List.set_cons_succ, i64_w, i32_w]
              rfl
            refine pure_ (i := 3) (N := some 122) (v := ?_) (a' := ?_) #[true, true, true, true, false, false, false, false, false, false, false, false, false, false, false, false, false, false, false, false, false, false, false] rfl rfl (any_of HT_.out (by kernel_rfl)) (fun _ _ _ h => h) (Or.inl ⟨by rfl, ?_⟩) ?_ ?_
            rotate_left
            · intro w'
              go_simp
              with_reducible rfl
            rotate_left
            · simp only [Act.put, List.setIfInBounds_toArray, List.set_cons_zero, List.set_cons_succ, i64_w, i32_w]
              rfl
            refine pure_ (i := 4) (N := some 123) (v := ?_) (a' := ?_) #[true, true, true, true, true, false, false, false, false, false, false, false, false, false, false, false, false, false, false, false, false, false, false] rfl rfl (any_of HT_.out (by kernel_rfl)) (fun _ _ _ h => h) (Or.inl ⟨by rfl, ?_⟩) ?_ ?_
            rotate_left
            · intro w'
              go_simp
              with_reducible rfl
            rotate_left
            · simp only [Act.put, List.setIfInBounds_toArray, List.set_cons_zero, List.set_cons_succ, i64_w, i32_w]
              rfl
            refine pure_ (i := 5) (N := some 124) (v := ?_) (a' := ?_) #[true, true, true, true, true, true, false, false, false, false, false, false, false, false, false, false, false, false, false, false, false, false, false] rfl rfl (any_of HT_.out (by kernel_rfl)) (fun _ _ _ h => h) (Or.inl ⟨by rfl, ?_⟩) ?_ ?_
            rotate_left
            · intro w'
              go_simp
              with_reducible rfl
            rotate_left
            · simp only [Act.put, List.setIfInBounds_toArray, List.set_cons_zero, List.set_cons_succ, i64_w, i32_w]
              rfl
            refine take_ (i := 6) (N := some 125) (v := ?_) (a' := ?_) #[true, true, true, true, true, true, true, false, false, false, false, false, false, false, false, false, false, false, false, false, false, false, false] rfl rfl (take_ofW HT_.out HW_.out (by kernel_rfl)) (fun _ _ _ h => h) (Or.inl ⟨by rfl, ?_⟩) hHeld ?_ ?_
            rotate_left
            · intro w' s0
              go_simp
              with_reducible rfl
            rotate_left
            · simp only [Act.put, List.setIfInBounds_toArray, List.set_cons_zero, List.set_cons_succ, i64_w, i32_w]
              rfl
            refine take_ (i := 9) (N := some 128) (v := ?_) (a' := ?_) #[true, true, true, true, true, true, true, false, false, true, false, false, false, false, false, false, false, false, false, false, false, false, false] rfl rfl (take_ofW HT_.out HW_.out (by kernel_rfl)) (fun _ _ _ h => h) (Or.inl ⟨by rfl, ?_⟩) hHeld ?_ ?_
            rotate_left
            · intro w' s0
              go_simp
              with_reducible rfl
            rotate_left
            · simp only [Act.put, List.setIfInBounds_toArray, List.set_cons_zero, List.set_cons_succ, i64_w, i32_w]
              rfl
            refine pure_ (i := 10) (N := some 129) (v := ?_) (a' := ?_) #[true, true, true, true, true, true, true, false, false, true, true, false, false, false, false, false, false, false, false, false, false, false, false] rfl rfl (any_of HT_.out (by kernel_rfl)) (fun _ _ _ h => h) (Or.inl ⟨by rfl, ?_⟩) ?_ ?_
            rotate_left
            · intro w'
              go_simp
              with_reducible rfl
            rotate_left
            · simp only [Act.put, List.setIfInBounds_toArray, List.set_cons_zero, List.set_cons_succ, i64_w, i32_w]
              rfl
            refine take_ (i := 11) (N := some 130) (v := ?_) (a' := ?_) #[true, true, true, true, true, true, true, false, false, true, true, true, false, false, false, false, false, false, false, false, false, false, false] rfl rfl (take_ofW HT_.out HW_.out (by kernel_rfl)) (fun _ _ _ h => h) (Or.inl ⟨by rfl, ?_⟩) hHeld ?_ ?_
            rotate_left
            · intro w' s0
              go_simp
              with_reducible rfl
            rotate_left
            · simp only [Act.put, List.setIfInBounds_toArray, List.set_cons_zero, List.set_cons_succ, i64_w, i32_w]
              rfl
            refine pure_ (i := 12) (N := some 131) (v := ?_) (a' := ?_) #[true, true, true, true, true, true, true, false, false, true, true, true, true, false, false, false, false, false, false, false, false, false, false] rfl rfl (any_of HT_.out (by kernel_rfl)) (fun _ _ _ h => h) (Or.inl ⟨by rfl, ?_⟩) ?_ ?_
            rotate_left
            · intro w'
              go_simp
              with_reducible rfl
            rotate_left
            · simp only [Act.put, List.setIfInBounds_toArray, List.set_cons_zero, List.set_cons_succ, i64_w, i32_w]
              rfl
            refine pure_ (i := 13) (N := some 132) (v := ?_) (a' := ?_) #[true, true, true, true, true, true, true, false, false, true, true, true, true, true, false, false, false, false, false, false, false, false, false] rfl rfl (any_of HT_.out (by kernel_rfl)) (fun _ _ _ h => h) (Or.inl ⟨by rfl, ?_⟩) ?_ ?_
            rotate_left
            · intro w'
              go_simp
              with_reducible rfl
            rotate_left
            · simp only [Act.put, List.setIfInBounds_toArray, List.set_cons_zero, List.set_cons_succ, i64_w, i32_w]
              rfl
            refine pure_ (i := 14) (N := some 133) (v := ?_) (a' := ?_) #[true, true, true, true, true, true, true, false, false, true, true, true, true, true, true, false, false, false, false, false, false, false, false] rfl rfl (any_of HT_.out (by kernel_rfl)) (fun _ _ _ h => h) (Or.inl ⟨by rfl, ?_⟩) ?_ ?_
            rotate_left
            · intro w'
              go_simp
              with_reducible rfl
            rotate_left
            · simp only [Act.put, List.setIfInBounds_toArray, List.set_cons_zero, List.set_cons_succ, i64_w, i32_w]
              rfl
            refine take_ (i := 15) (N := some 134) (v := ?_) (a' := ?_) #[true, true, true, true, true, true, true, false, false, true, true, true, true, true, true, true, false, false, false, false, false, false, false] rfl rfl (take_ofW HT_.out HW_.out (by kernel_rfl)) (fun _ _ _ h => h) (Or.inl ⟨by rfl, ?_⟩) hHeld ?_ ?_
            rotate_left
            · intro w' s0
              go_simp
              with_reducible rfl
            rotate_left
            · simp only [Act.put, List.setIfInBounds_toArray, List.set_cons_zero, List.set_cons_succ, i64_w, i32_w]
              rfl
            refine pure_ (i := 16) (N := some 135) (v := ?_) (a' := ?_) #[true, true, true, true, true, true, true, false, false, true, true, true, true, true, true, true, true, false, false, false, false, false, false] rfl rfl (any_of HT_.out (by kernel_rfl)) (fun _ _ _ h => h) (Or.inl ⟨by rfl, ?_⟩) ?_ ?_
            rotate_left
            · intro w'
              go_simp
              with_reducible rfl
            rotate_left
            · simp only [Act.put, List.setIfInBounds_toArray, List.set_cons_zero, List.set_cons_succ, i64_w, i32_w]
              rfl
            refine pure_ (i := 17) (N := some 136) (v := ?_) (a' := ?_) #[true, true, true, true, true, true, true, false, false, true, true, true, true, true, true, true, true, true, false, false, false, false, false] rfl rfl (any_of HT_.out (by kernel_rfl)) (fun _ _ _ h => h) (Or.inl ⟨by rfl, ?_⟩) ?_ ?_
            rotate_left
            · intro w'
              go_simp
              with_reducible rfl
            rotate_left
            · simp only [Act.put, List.setIfInBounds_toArray, List.set_cons_zero, List.set_cons_succ, i64_w, i32_w]
              rfl
            refine take_ (i := 18) (N := some 137) (v := ?_) (a' := ?_) #[true, true, true, true, true, true, true, false, false, true, true, true, true, true, true, true, true, true, true, false, false, false, false] rfl rfl (take_ofW HT_.out HW_.out (by kernel_rfl)) (fun _ _ _ h => h) (Or.inl ⟨by rfl, ?_⟩) hHeld ?_ ?_
            rotate_left
            · intro w' s0
              go_simp
              with_reducible rfl
            rotate_left
            · simp only [Act.put, List.setIfInBounds_toArray, List.set_cons_zero, List.set_cons_succ, i64_w, i32_w]
              rfl
            refine join_ (σ := Value × Nat × Nat) 3 #[true, true, true, true, true, true, true, true, true, true, true, true, true, true, true, true, true, true, true, true, false, false, false] (fun s => [(126, .slice (some ⟨s.2.1, 0, none⟩) 1 1), (127, s.1), (138, .slice (some ⟨s.2.2, 0, none⟩) 1 1)]) (fun s w' => Hx w (some ad) L.length c stop wk.heap.size 0 v16 v17 w' ∧ Kd.R (Kd.int .i64) 2 w' wk.heap.size (fun _ => True) s.1 (xs.map Prod.fst ++ [ed.f0]) ∧ Kd.R k67 67 w' wk.heap.size (fun _ => True) v17 (xs.map Prod.snd) ∧ w'.heap[s.2.2]? = some (.cells #[.int .i64 ee.f0, .int .i64 ee.f1] 67 (0, 0))) ?_ ?_
            rotate_left
            · intro hcont
              have HC := Aside0.mk hcont
              clear hcont
              refine two_ (i := 7) (j := 19) (Ni := some 126) (Nj := some 138) #[true, true, true, true, true, true, true, true, false, true, true, true, true, true, true, true, true, true, true, false, false, false, false] #[true, true, true, true, true, true, true, false, false, true, true, true, true, true, true, true, true, true, true, true, false, false, false] rfl rfl rfl rfl (two_of HT_.out (by kernel_rfl)) (by decide) (by decide) (fun K hK => ?_) (fun K hK => ?_)
              · refine value_ (w1 := ?_) (v := ?_) (by rfl) rfl ?_ ?_
                rotate_left 2
                · go_simp
                  constructor
                  · rfl
                  · rfl
                have HH_1 := Aside0.mk (HHd.out.kpt (kpT_alloc (ts := fun _ => True) HHd.out.fx.b.size (.cells #[.int .i64 ed.f0] 2)) trivial trivial trivial trivial trivial)
                have RA_2 := Aside0.mk (Kd.R_alloc HR16d.out (.cells #[.int .i64 ed.f0] 2))
                have RB_3 := Aside0.mk (Kd.R_alloc HR17d.out (.cells #[.int .i64 ed.f0] 2))
                have GG_4 := Aside0.mk (blk_new w2 (.cells #[.int .i64 ed.f0] 2))
                refine hK.out _ _ (HS.out _ HH_1.out) (fun hHeld => ?_)
                clear hK K
                refine norm_ (a' := ?_) ?_ ?_
                rotate_left
                · show Act.put _ (some 126) _ = _
                  simp only [Act.put, List.setIfInBounds_toArray, List.set_cons_zero, List.set_cons_succ, i64_w, i32_w]
                  rfl
                obtain ⟨g7, hg7⟩ : ∃ g7, w2.heap.size = g7 := ⟨_, rfl⟩
                rw [hg7] at GG_4 ⊢
                clear hg7
                generalize w2.alloc (.cells #[.int .i64 ed.f0] 2) = w_5 at HH_1 RA_2 RB_3 GG_4 hHeld ⊢
                refine two_ (i := 8) (j := 19) (Ni := some 127) (Nj := some 138) #[true, true, true, true, true, true, true, true, true, true, true, true, true, true, true, true, true, true, true, false, false, false, false] #[true, true, true, true, true, true, true, true, false, true, true, true, true, true, true, true, true, true, true, true, false, false, false] rfl rfl rfl rfl (two_of HT_.out (by kernel_rfl)) (by decide) (by decide) (fun K hK => ?_) (fun K hK => ?_)
                · have hxl := HXL.out
                  refine step_append_at (Kd.int .i64) wk.heap.size (by rfl) (.tmp 119) (.tmp 126) 65 2 (.int .i64 0) 8 rfl Try.underlying65 info2 rfl (by decide) (by omega) v16 (xs.map Prod.fst) ed.f0 [.int .i64 ed.f0] rfl g7 rfl GG_4.out rfl RA_2.out (by have := blk_lt HH_1.out.bn; omega) (by rw [List.length_map]; omega) ?_
                  intro v1 w_9 hA hg
                  obtain ⟨Av, cv, hav⟩ := Kd.R_slice hA
                  simp only [List.length_append, List.length_map, List.length_cons, List.length_nil, Nat.zero_add] at hav
                  subst hav
                  have hk := kpT_grown (n0 := w.heap.size) RA_2.out (by have := HH_1.out.ne; omega) HH_1.out.fx.b.size hg
                  have HH_6 := Aside0.mk (HH_1.out.kpt hk (by decide) (by decide) (by decide) (by decide) (by decide))
                  have RB_7 := Aside0.mk (R_kpT RB_3.out hk (q67 _ (by decide)))
                  have RA_8 := Aside0.mk hA
                  clear hk hA hg hxl
                  refine hK.out _ _ (HS.out _ HH_6.out) (fun hHeld => ?_)
                  clear hK K
                  refine norm_ (a' := ?_) ?_ ?_
                  rotate_left
                  · show Act.put _ (some 127) _ = _
                    simp only [Act.put, List.setIfInBounds_toArray, List.set_cons_zero, List.set_cons_succ, i64_w, i32_w]
                    rfl
                  refine one_ (i := 19) (N := some 138) #[true, true, true, true, true, true, true, true, true, true, true, true, true, true, true, true, true, true, true, true, false, false, false] rfl rfl (one_of HT_.out (by kernel_rfl)) (by decide) (fun K hK => ?_)
                  refine value_ (w1 := ?_) (v := ?_) (by rfl) rfl ?_ ?_
                  rotate_left 2
                  · go_simp
                    constructor
                    · rfl
                    · rfl
                  have HH_11 := Aside0.mk (HH_6.out.kpt (kpT_alloc (ts := fun _ => True) HH_6.out.fx.b.size (.cells #[.int .i64 ee.f0, .int .i64 ee.f1] 67)) trivial trivial trivial trivial trivial)
                  have RA_12 := Aside0.mk (Kd.R_alloc RA_8.out (.cells #[.int .i64 ee.f0, .int .i64 ee.f1] 67))
                  have RB_13 := Aside0.mk (Kd.R_alloc RB_7.out (.cells #[.int .i64 ee.f0, .int .i64 ee.f1] 67))
                  have GG_14 := Aside0.mk (blk_new w_9 (.cells #[.int .i64 ee.f0, .int .i64 ee.f1] 67))
                  refine hK.out _ _ (HS.out _ HH_11.out) (fun hHeld => ?_)
                  clear hK K
                  refine norm_ (a' := ?_) ?_ ?_
                  rotate_left
                  · show Act.put _ (some 138) _ = _
                    simp only [Act.put, List.setIfInBounds_toArray, List.set_cons_zero, List.set_cons_succ, i64_w, i32_w]
                    rfl
                  obtain ⟨g19, hg19⟩ : ∃ g19, w_9.heap.size = g19 := ⟨_, rfl⟩
                  rw [hg19] at GG_14 ⊢
                  clear hg19
                  generalize w_9.alloc (.cells #[.int .i64 ee.f0, .int .i64 ee.f1] 67) = w_15 at HH_11 RA_12 RB_13 GG_14 hHeld ⊢
                  exact norm_ (by rfl) (HC.out (_, g7, g19) _ ⟨HH_11.out, RA_12.out, RB_13.out, GG_14.out⟩)
                · refine value_ (w1 := ?_) (v := ?_) (by rfl) rfl ?_ ?_
                  rotate_left 2
                  · go_simp
                    constructor
                    · rfl
                    · rfl
                  have HH_16 := Aside0.mk (HH_1.out.kpt (kpT_alloc (ts := fun _ => True) HH_1.out.fx.b.size (.cells #[.int .i64 ee.f0, .int .i64 ee.f1] 67)) trivial trivial trivial trivial trivial)
                  have RA_17 := Aside0.mk (Kd.R_alloc RA_2.out (.cells #[.int .i64 ee.f0, .int .i64 ee.f1] 67))
                  have RB_18 := Aside0.mk (Kd.R_alloc RB_3.out (.cells #[.int .i64 ee.f0, .int .i64 ee.f1] 67))
                  have GG_19 := Aside0.mk (blk_new w_5 (.cells #[.int .i64 ee.f0, .int .i64 ee.f1] 67))
                  have GG_21 := Aside0.mk (blk_alloc GG_4.out (.cells #[.int .i64 ee.f0, .int .i64 ee.f1] 67))
                  refine hK.out _ _ (HS.out _ HH_16.out) (fun hHeld => ?_)
                  clear hK K
                  refine norm_ (a' := ?_) ?_ ?_
                  rotate_left
                  · show Act.put _ (some 138) _ = _
                    simp only [Act.put, List.setIfInBounds_toArray, List.set_cons_zero, List.set_cons_succ, i64_w, i32_w]
                    rfl
                  obtain ⟨g19, hg19⟩ : ∃ g19, w_5.heap.size = g19 := ⟨_, rfl⟩
                  rw [hg19] at GG_19 ⊢
                  clear hg19
                  generalize w_5.alloc (.cells #[.int .i64 ee.f0, .int .i64 ee.f1] 67) = w_20 at HH_16 RA_17 RB_18 GG_19 GG_21 hHeld ⊢
                  refine one_ (i := 8) (N := some 127) #[true, true, true, true, true, true, true, true, true, true, true, true, true, true, true, true, true, true, true, true, false, false, false] rfl rfl (one_of HT_.out (by kernel_rfl)) (by decide) (fun K hK => ?_)
                  have hxl := HXL.out
                  refine step_append_at (Kd.int .i64) wk.heap.size (by rfl) (.tmp 119) (.tmp 126) 65 2 (.int .i64 0) 8 rfl Try.underlying65 info2 rfl (by decide) (by omega) v16 (xs.map Prod.fst) ed.f0 [.int .i64 ed.f0] rfl g7 rfl GG_21.out rfl RA_17.out (by have := blk_lt HH_16.out.bn; omega) (by rw [List.length_map]; omega) ?_
                  intro v1 w_25 hA hg
                  obtain ⟨Av, cv, hav⟩ := Kd.R_slice hA
                  simp only [List.length_append, List.length_map, List.length_cons, List.length_nil, Nat.zero_add] at hav
                  subst hav
                  have hk := kpT_grown (n0 := w.heap.size) RA_17.out (by have := HH_16.out.ne; omega) HH_16.out.fx.b.size hg
                  have HH_22 := Aside0.mk (HH_16.out.kpt hk (by decide) (by decide) (by decide) (by decide) (by decide))
                  have RB_23 := Aside0.mk (R_kpT RB_18.out hk (q67 _ (by decide)))
                  have RA_24 := Aside0.mk hA
                  have GG_26 := Aside0.mk (hk.2 _ _ _ (by decide) GG_19.out)
                  clear hk hA hg hxl
                  refine hK.out _ _ (HS.out _ HH_22.out) (fun hHeld => ?_)
                  clear hK K
                  refine norm_ (a' := ?_) ?_ ?_
                  rotate_left
                  · show Act.put _ (some 127) _ = _
                    simp only [Act.put, List.setIfInBounds_toArray, List.set_cons_zero, List.set_cons_succ, i64_w, i32_w]
                    rfl
                  exact norm_ (by rfl) (HC.out (_, g7, g19) _ ⟨HH_22.out, RA_24.out, RB_23.out, GG_26.out⟩)
              · refine value_ (w1 := ?_) (v := ?_) (by rfl) rfl ?_ ?_
                rotate_left 2
                · go_simp
                  constructor
                  · rfl
                  · rfl
                have HH_27 := Aside0.mk (HHd.out.kpt (kpT_alloc (ts := fun _ => True) HHd.out.fx.b.size (.cells #[.int .i64 ee.f0, .int .i64 ee.f1] 67)) trivial trivial trivial trivial trivial)
                have RA_28 := Aside0.mk (Kd.R_alloc HR16d.out (.cells #[.int .i64 ee.f0, .int .i64 ee.f1] 67))
                have RB_29 := Aside0.mk (Kd.R_alloc HR17d.out (.cells #[.int .i64 ee.f0, .int .i64 ee.f1] 67))
                have GG_30 := Aside0.mk (blk_new w2 (.cells #[.int .i64 ee.f0, .int .i64 ee.f1] 67))
                refine hK.out _ _ (HS.out _ HH_27.out) (fun hHeld => ?_)
                clear hK K
                refine norm_ (a' := ?_) ?_ ?_
                rotate_left
                · show Act.put _ (some 138) _ = _
                  simp only [Act.put, List.setIfInBounds_toArray, List.set_cons_zero, List.set_cons_succ, i64_w, i32_w]
                  rfl
                obtain ⟨g19, hg19⟩ : ∃ g19, w2.heap.size = g19 := ⟨_, rfl⟩
                rw [hg19] at GG_30 ⊢
                clear hg19
                generalize w2.alloc (.cells #[.int .i64 ee.f0, .int .i64 ee.f1] 67) = w_31 at HH_27 RA_28 RB_29 GG_30 hHeld ⊢
                refine one_ (i := 7) (N := some 126) #[true, true, true, true, true, true, true, true, false, true, true, true, true, true, true, true, true, true, true, true, false, false, false] rfl rfl (one_of HT_.out (by kernel_rfl)) (by decide) (fun K hK => ?_)
                refine value_ (w1 := ?_) (v := ?_) (by rfl) rfl ?_ ?_
                rotate_left 2
                · go_simp
                  constructor
                  · rfl
                  · rfl
                have HH_32 := Aside0.mk (HH_27.out.kpt (kpT_alloc (ts := fun _ => True) HH_27.out.fx.b.size (.cells #[.int .i64 ed.f0] 2)) trivial trivial trivial trivial trivial)
                have RA_33 := Aside0.mk (Kd.R_alloc RA_28.out (.cells #[.int .i64 ed.f0] 2))
                have RB_34 := Aside0.mk (Kd.R_alloc RB_29.out (.cells #[.int .i64 ed.f0] 2))
                have GG_35 := Aside0.mk (blk_new w_31 (.cells #[.int .i64 ed.f0] 2))
                have GG_37 := Aside0.mk (blk_alloc GG_30.out (.cells #[.int .i64 ed.f0] 2))
                refine hK.out _ _ (HS.out _ HH_32.out) (fun hHeld => ?_)
                clear hK K
                refine norm_ (a' := ?_) ?_ ?_
                rotate_left
                · show Act.put _ (some 126) _ = _
                  simp only [Act.put, List.setIfInBounds_toArray, List.set_cons_zero, List.set_cons_succ, i64_w, i32_w]
                  rfl
                obtain ⟨g7, hg7⟩ : ∃ g7, w_31.heap.size = g7 := ⟨_, rfl⟩
                rw [hg7] at GG_35 ⊢
                clear hg7
                generalize w_31.alloc (.cells #[.int .i64 ed.f0] 2) = w_36 at HH_32 RA_33 RB_34 GG_35 GG_37 hHeld ⊢
                refine one_ (i := 8) (N := some 127) #[true, true, true, true, true, true, true, true, true, true, true, true, true, true, true, true, true, true, true, true, false, false, false] rfl rfl (one_of HT_.out (by kernel_rfl)) (by decide) (fun K hK => ?_)
                have hxl := HXL.out
                refine step_append_at (Kd.int .i64) wk.heap.size (by rfl) (.tmp 119) (.tmp 126) 65 2 (.int .i64 0) 8 rfl Try.underlying65 info2 rfl (by decide) (by omega) v16 (xs.map Prod.fst) ed.f0 [.int .i64 ed.f0] rfl g7 rfl GG_35.out rfl RA_33.out (by have := blk_lt HH_32.out.bn; omega) (by rw [List.length_map]; omega) ?_
                intro v1 w_41 hA hg
                obtain ⟨Av, cv, hav⟩ := Kd.R_slice hA
                simp only [List.length_append, List.length_map, List.length_cons, List.length_nil, Nat.zero_add] at hav
                subst hav
                have hk := kpT_grown (n0 := w.heap.size) RA_33.out (by have := HH_32.out.ne; omega) HH_32.out.fx.b.size hg
                have HH_38 := Aside0.mk (HH_32.out.kpt hk (by decide) (by decide) (by decide) (by decide) (by decide))
                have RB_39 := Aside0.mk (R_kpT RB_34.out hk (q67 _ (by decide)))
                have RA_40 := Aside0.mk hA
                have GG_42 := Aside0.mk (hk.2 _ _ _ (by decide) GG_37.out)
                clear hk hA hg hxl
                refine hK.out _ _ (HS.out _ HH_38.out) (fun hHeld => ?_)
                clear hK K
                refine norm_ (a' := ?_) ?_ ?_
                rotate_left
                · show Act.put _ (some 127) _ = _
                  simp only [Act.put, List.setIfInBounds_toArray, List.set_cons_zero, List.set_cons_succ, i64_w, i32_w]
                  rfl
                exact norm_ (by rfl) (HC.out (_, g7, g19) _ ⟨HH_38.out, RA_40.out, RB_39.out, GG_42.out⟩)
            · rintro ⟨v1, g7, g19⟩ w3 ⟨hX3, hR3, hE3, hG3⟩
              simp only at hR3 hG3
              obtain ⟨Av, cv, hav⟩ := Kd.R_slice hR3
              simp only [List.length_append, List.length_map, List.length_cons, List.length_nil, Nat.zero_add] at hav
              subst hav
              have HX3 := Aside0.mk hX3
              have HR3 := Aside0.mk hR3
              have HE3 := Aside0.mk hE3
              have HG3 := Aside0.mk hG3
              clear hX3 hR3 hE3 hG3 HHd HR16d HR17d
              refine norm_ (a' := ?_) ?_ ?_
              rotate_left
              · simp only [putAll, Act.put, List.setIfInBounds_toArray, List.set_cons_zero, List.set_cons_succ, i64_w, i32_w]
                rfl
              have hxl := HXL.out
              refine one_ (i := 20) (N := some 139) #[true, true, true, true, true, true, true, true, true, true, true, true, true, true, true, true, true, true, true, true, true, false, false] rfl rfl (one_of HT_.out (by kernel_rfl)) (by decide) (fun K hK => ?_)
              refine step_append_at k67 wk.heap.size (by rfl) (.tmp 128) (.tmp 138) 51 67 (.agg #[.int .i64 0, .int .i64 0]) 16 rfl Try.underlying51 info67 rfl (by decide) (by omega) v17 (xs.map Prod.snd) ee [.int .i64 ee.f0, .int .i64 ee.f1] rfl g19 rfl HG3.out (k67_mkM _ _ _ _) HE3.out (by have := blk_lt HX3.out.bn; omega) (by rw [List.length_map]; omega) ?_
              intro v2 w4 hA hg
              obtain ⟨Ae, ce, hav⟩ := Kd.R_slice hA
              simp only [List.length_append, List.length_map, List.length_cons, List.length_nil, Nat.zero_add] at hav
              subst hav
              have hk := kpT_grown (n0 := w.heap.size) HE3.out (by have := HX3.out.ne; omega) HX3.out.fx.b.size hg
              have HX4 := Aside0.mk (HX3.out.kpt hk (by decide) (by decide) (by decide) (by decide) (by decide))
              have HR4 := Aside0.mk (R_kpT HR3.out hk (q2 _ (by decide)))
              have HE4 := Aside0.mk hA
              clear hk hA hg hxl HX3 HR3 HE3 HG3
              refine hK.out _ _ (HS.out _ HX4.out) (fun hHeld => ?_)
              clear hK K
              refine norm_ (a' := ?_) ?_ ?_
              rotate_left
              · show Act.put _ (some 139) _ = _
                simp only [Act.put, List.setIfInBounds_toArray, List.set_cons_zero, List.set_cons_succ, i64_w, i32_w]
                rfl
              refine last_ (i := 21) (N := none) #[true, true, true, true, true, true, true, true, true, true, true, true, true, true, true, true, true, true, true, true, true, true, false] rfl rfl (one_of HT_.out (by kernel_rfl)) (by decide) (fun K hK => ?_)
              have hc16 := HX4.out.c16
              have hf16 := blk_frozen HX4.out.b16 0
              refine skip_ (w1 := ?_) (by rfl) rfl ?_ ?_
              rotate_left
              · go_simp
                rfl
              refine hK.out _ _ ?_
              clear hK K hc16 hf16
              have HX5 := Aside0.mk (HX4.out.set16 (.slice Av (xs.length + 1) cv))
              have hk5 := kpT_set (ts := fun t => t ≠ 65) (n0 := w.heap.size) (by have := HX4.out.ne; omega) HX4.out.b16 (fun hh => hh rfl) 0 (.slice Av (xs.length + 1) cv)
              have HR5 := Aside0.mk (R_kpT HR4.out hk5 (q2 _ (by decide)))
              have HE5 := Aside0.mk (R_kpT HE4.out hk5 (q67 _ (by decide)))
              clear hk5 HX4 HR4 HE4 hHeld
              generalize w4.setCell ⟨wk.heap.size + 1 + 1, 0, none⟩ (.slice Av (xs.length + 1) cv) = w5 at HX5 HR5 HE5 ⊢
              have hc17 := HX5.out.c17
              have hf17 := blk_frozen HX5.out.b17 0
              refine last_ (i := 22) (N := none) #[true, true, true, true, true, true, true, true, true, true, true, true, true, true, true, true, true, true, true, true, true, true, true] rfl rfl (one_of HT_.out (by kernel_rfl)) (by decide) (fun K hK => ?_)
              refine skip_ (w1 := ?_) (by rfl) rfl ?_ ?_
              rotate_left
              · go_simp
                rfl
              refine hK.out _ _ ?_
              clear hK K hc17 hf17
              have HX6 := Aside0.mk (HX5.out.set17 (.slice Ae (xs.length + 1) ce))
              have hk6 := kpT_set (ts := fun t => t ≠ 51) (n0 := w.heap.size) (by have := HX5.out.ne; omega) HX5.out.b17 (fun hh => hh rfl) 0 (.slice Ae (xs.length + 1) ce)
              have HR6 := Aside0.mk (R_kpT HR5.out hk6 (q2 _ (by decide)))
              have HE6 := Aside0.mk (R_kpT HE5.out hk6 (q67 _ (by decide)))
              clear hk6 HX5 HR5 HE5
              generalize w5.setCell ⟨wk.heap.size + 1 + 1 + 1 + 1, 0, none⟩ (.slice Ae (xs.length + 1) ce) = w6 at HX6 HR6 HE6 ⊢
              refine done_ (done_of HT_.out (by kernel_rfl)) ?_
              go_wp2_with fail
              go_roundw
              case rel =>
                refine ⟨j + 1, by go_num, by omega, ⟨?_⟩⟩
                rw [← pre_lt L i ed j hjl, HXS.out, HEE.out]
                refine ⟨_, _, HX6.out, ?_, ?_⟩
                · rw [List.map_append]; exact HR6.out
                · rw [List.map_append]; exact HE6.out
              case measure => simp [intOf]; omega
          · obtain rfl : j = ed.f2.length := by omega
            clear hjg
            go_wp2_with fail
            go_roundw
            case rel =>
              refine ⟨i + 1, by go_num, by omega, ⟨?_⟩⟩
              have h := HGs.out
              rw [← HXS.out, show (ofV ed).take ed.f2.length = ofV ed from List.take_of_length_le (by simp [ofV])] at h
              rw [take_one L i z53 hil, allOf_snoc, HED.out]
              exact h
            case measure => simp [intOf]; omega
      · obtain rfl : i = L.length := by omega
        clear hig
        go_wp2_with fail
        go_meet
        case rel =>
          have h := HGr.out
          rw [List.take_length] at h
          exact ⟨h⟩
  case rest =>
  obtain ⟨v16, v17, hh, hr16, hr17⟩ := hcut.out
  have HH := Aside0.mk hh
  have HR16 := Aside0.mk hr16
  have HR17 := Aside0.mk hr17
  have hcg := hh.fx.gc
  clear hh hr16 hr17 hcut
  go_wp2_with fail
  refine ((callsIn_wide (n := 1)).1 (all_in Fence.wide 1 trivial rfl _ _ _ _)).mono ?_
  rintro e we ⟨rfl, hwe⟩
  have hcs : we.cell? ⟨wc.heap.size, 0, none⟩ = some (.slice A L.length c) := by rw [hwe]; exact (blk_cell (blk_new wc _) 0).trans rfl
  have hbe : Below wc.heap.size wc we := by rw [hwe]; exact below_alloc (Below.refl _ _) _
  have HHe := Aside0.mk (HH.out.kpt (w1 := we) (ts := fun _ => True) (by rw [hwe]; exact kpT_alloc HH.out.fx.b.size _) trivial trivial trivial trivial trivial)
  have HR16e := Aside0.mk (Kd.R_below HR16.out hbe)
  have HR17e := Aside0.mk (Kd.R_below HR17.out hbe)
  have hzc : we.heap.size = wc.heap.size + 1 := by rw [hwe, World.size_alloc]
  have hszw : w.heap.size ≤ we.heap.size := HHe.out.fx.b.size
  obtain ⟨A16, c16, h16⟩ := Kd.R_slice HR16e.out
  obtain ⟨A17, c17, h17⟩ := Kd.R_slice HR17e.out
  rw [List.length_map] at h16 h17
  subst h16
  subst h17
  have HI0 : Aside0 (Ix0 w A L.length c stop wk.heap.size (.slice A16 (allOf L).length c16) (.slice A17 (allOf L).length c17) (allOf L) 0 we) := ⟨⟨HHe.out, HR16e.out, HR17e.out⟩⟩
  have hN : (allOf L).length ≤ 2048 := allOf_small HAL.out hn (fun v hm => by have := HV.out v hm; omega)
  have hwkw : w.heap.size ≤ wk.heap.size := by have := HHe.out.ne; omega
  obtain ⟨N, hNe⟩ : ∃ N, (allOf L).length = N := ⟨_, rfl⟩
  have HNE := Aside0.mk hNe
  rw [hNe] at HI0 hN
  clear hwe HH HR16 HR17 hcg HHe HR16e HR17e
  clear hNe
  go_wp2_with fail
  refine name_act (fun T hT => ?_)
  simp only at hT
  refine (wpIn_wide (n := n)).1 ?_
  refine wpIn_rangeFunc_ownH (F := Fence.wide) rfl h1n (gf := 91) (lb := #[.pointer (some ⟨wc.heap.size, 0, none⟩)]) (by rw [hT]; rfl) trivial (enters_of Try.func91 (by kernel_rfl) rfl)
    (all_stops Fence.wide (n - 1) trivial rfl (by omega) wc.heap.size w we L A c HR0.out HI0.out.hx.fx.b hcs) kpT_t (kpT_b hszw) (Below.refl _ _) (fun _ => rfl)
    (fun pre W => Ix0 w A L.length c stop wk.heap.size (.slice A16 N c16) (.slice A17 N c17) (allOf L) pre.length W)
    (fun cd pre W => ((cd = .ret ∧ ¬ pre <+: allOf L) ∨ (cd = .exit 8 ∧ (pre.length : Int) = stop)) ∧ (cd = .ret ∨ Ix0 w A L.length c stop wk.heap.size (.slice A16 N c16) (.slice A17 N c17) (allOf L) pre.length W))
    (Ix0.own hszw)
    (fun cd => own_p _ (fun s W W' row hs hg hr => hs.imp id (fun h => Ix0.own hszw s W W' row h hg hr)))
    HI0.out
    (fun x a' W => ∃ g : Nat, w.heap.size ≤ g ∧ a' = (fun g : Nat => ({ tmps := (((T.setIfInBounds 142 (.int .i64 x.1)).setIfInBounds 143 (.agg #[.int .i64 x.2.f0, .int .i64 x.2.f1])).setIfInBounds 20 (.int .i64 x.1)).setIfInBounds 21 (.pointer (some ⟨g, 0, none⟩)), defers := [] } : Act)) g ∧ W.heap[g]? = some (.cells #[.int .i64 x.2.f0, .int .i64 x.2.f1] 67 (0, 0)))
    (fun x a' => ax_own a' _ _ _) ?assign ?body ?done ?stop
  case assign =>
    intro l pre x W K hI hK
    have HK := Aside0.mk (hK _ (W.alloc (.cells #[.int .i64 x.2.f0, .int .i64 x.2.f1] 67)) ((KeepsOthers.alloc _ _).from _) (kpT_alloc hI.hx.fx.b.size _) (hI.kpt (n0 := 0) (kpT_alloc hI.hx.fx.b.size _)) ⟨W.heap.size, hI.hx.fx.b.size, rfl, blk_new W _⟩)
    clear hK
    subst hT
    simp only [encE, List.zip_toArray, List.zip_cons_cons, List.zip_nil_left, List.zip_nil_right, List.size_toArray, List.foldl_toArray', List.foldl_toArray, List.foldl_cons, List.foldl_nil, List.setIfInBounds_toArray, List.set_cons_zero, List.set_cons_succ] at HK ⊢
    gi_wp2
    exact HK.out
  case body =>
    rintro l pre x a' W hl hrec hI ⟨g, hg0, rfl, hgx⟩ hlt
    have HII := Aside0.mk hI
    have HG := Aside0.mk hgx
    obtain ⟨ad16, ad17, hA16, hA17, hw0, he0, he1⟩ := hI.at_ hlt
    rw [HNE.out] at hlt
    obtain ⟨y, hy⟩ : ∃ y, (allOf L).getD pre.length (0, z67) = y := ⟨_, rfl⟩
    rw [hy] at hw0 he0 he1
    have HY := Aside0.mk hy
    have hcn := hI.hx.cn
    have hfn := blk_frozen hI.hx.bn 0
    have hc16 := hI.hx.c16
    have hc17 := hI.hx.c17
    have hcst := hI.hx.fx.sc
    have hcfl := hI.hx.fx.fc
    have hffl := blk_frozen hI.hx.fx.f 0
    have hq0 : W.cell? ⟨g, 0, none⟩ = some (.int .i64 x.2.f0) := (blk_cell hgx 0).trans rfl
    have hq1 : W.cell? ⟨g, 1, none⟩ = some (.int .i64 x.2.f1) := (blk_cell hgx 1).trans rfl
    obtain ⟨x0, x1, x2⟩ := x
    obtain ⟨y0, y1, y2⟩ := y
    simp only at hw0 he0 he1 hq0 hq1
    subst hA16
    subst hA17
    obtain ⟨m, hm⟩ : ∃ m, pre.length = m := ⟨_, rfl⟩
    rw [hm] at hcn hw0 he0 he1 hlt HY HII
    have HM := Aside0.mk hm
    have hge1 : ((m : Int) ≥ (N : Int)) = False := eq_false (by omega)
    have hlt1 : ((m : Int) < (N : Int)) = True := eq_true (by omega)
    have hmd : decide ((m : Int) ≥ (N : Int)) = false := decide_eq_false (by omega)
    have hm2 : (0 : Int) ≤ (m : Int) ∧ (m : Int) < (N : Int) := ⟨by omega, by omega⟩
    subst hT
    simp only [List.setIfInBounds_toArray, List.set_cons_zero, List.set_cons_succ]
    clear hI hgx hrec hy hm
    by_cases hxy : x0 = y0
    · subst hxy
      by_cases hxy1 : x1 = y1
      · subst hxy1
        by_cases hxy2 : x2 = y2
        · subst hxy2
          gi_wp2
          refine QuietR.region_quiet (by kernel_rfl) (by kernel_rfl) (by kernel_rfl) ?_
          repeat (gi_big_quiet_step (fail))
          refine wpQuietIn_nil ?_
          rintro _ ⟨nq, rfl⟩
          obtain ⟨hR1, hR2, hR3⟩ := HII.out.round nq
          have HR1 := Aside0.mk hR1
          have HR2 := Aside0.mk hR2
          have HR3 := Aside0.mk hR3
          have hneB := HII.out.hx.ne
          have hne1 : (w.heap.size + 1 = wk.heap.size) = False := eq_false (by omega)
          have hne2 : (wk.heap.size = w.heap.size + 1) = False := eq_false (by omega)
          have hlen : (pre ++ [(x0, (⟨x1, x2⟩ : S67))]).length = m + 1 := by rw [List.length_append, HM.out]; rfl
          have HLEN := Aside0.mk hlen
          clear hR1 hR2 hR3 hlen hw0 he0 he1 hq0 hq1
          by_cases hst : (m : Int) + 1 = stop
          · have hst1 : (((m : Int) + 1) == stop) = true := beq_iff_eq.2 hst
            have hst2 : decide ((m : Int) + 1 = stop) = true := decide_eq_true hst
            have HST := Aside0.mk hst
            clear hst
            gi_wp2
            refine ⟨HR3.out.from _, .inr ⟨rfl, ?_⟩, .inr ?_⟩
            · rw [HLEN.out, ← HST.out]; rfl
            · rw [HLEN.out]; exact HR1.out
          · have hst1 : (((m : Int) + 1) == stop) = false := beq_eq_false_iff_ne.2 hst
            have hst2 : decide ((m : Int) + 1 = stop) = false := decide_eq_false hst
            clear hst
            gi_wp2
            refine ⟨HR3.out.from _, HR2.out, ?_⟩
            have h := HR1.out
            rw [← HLEN.out] at h
            exact h
        · have HXY := Aside0.mk hxy2
          have hxy3 : (x2 == y2) = false := beq_eq_false_iff_ne.2 hxy2
          have hxy4 : decide (x2 = y2) = false := decide_eq_false hxy2
          have hnp : ¬ (pre ++ [(x0, (⟨x1, x2⟩ : S67))] <+: allOf L) := by
            intro h
            have h2 := pre_at h
            rw [HM.out, HY.out] at h2
            injection h2 with h2 h3
            injection h3 with h3 h4
            exact HXY.out h4.symm
          have HNP := Aside0.mk hnp
          clear hnp HXY
          gi_wp2
          refine QuietR.region_quiet (by kernel_rfl) (by kernel_rfl) (by kernel_rfl) ?_
          repeat (gi_big_quiet_step (fail))
          refine wpQuietIn_nil ?_
          rintro _ ⟨nq, rfl⟩
          gi_wp2
          exact ⟨(keeps_flag W nq _ _).from _, .inl ⟨rfl, HNP.out⟩, .inl rfl⟩
      · have HXY := Aside0.mk hxy1
        have hxy3 : (x1 == y1) = false := beq_eq_false_iff_ne.2 hxy1
        have hxy4 : decide (x1 = y1) = false := decide_eq_false hxy1
        have hnp : ¬ (pre ++ [(x0, (⟨x1, x2⟩ : S67))] <+: allOf L) := by
          intro h
          have h2 := pre_at h
          rw [HM.out, HY.out] at h2
          injection h2 with h2 h3
          injection h3 with h3 h4
          exact HXY.out h3.symm
        have HNP := Aside0.mk hnp
        clear hnp HXY
        gi_wp2
        refine QuietR.region_quiet (by kernel_rfl) (by kernel_rfl) (by kernel_rfl) ?_
        repeat (gi_big_quiet_step (fail))
        refine wpQuietIn_nil ?_
        rintro _ ⟨nq, rfl⟩
        gi_wp2
        exact ⟨(keeps_flag W nq _ _).from _, .inl ⟨rfl, HNP.out⟩, .inl rfl⟩
    · have HXY := Aside0.mk hxy
      have hxy3 : (x0 != y0) = true := bne_iff_ne.2 hxy
      have hxy4 : (x0 == y0) = false := beq_eq_false_iff_ne.2 hxy
      have hnp : ¬ (pre ++ [(x0, (⟨x1, x2⟩ : S67))] <+: allOf L) := by
        intro h
        have h2 := pre_at h
        rw [HM.out, HY.out] at h2
        injection h2 with h2 h3
        exact HXY.out h2.symm
      have HNP := Aside0.mk hnp
      clear hnp HXY
      gi_wp2
      refine QuietR.region_quiet (by kernel_rfl) (by kernel_rfl) (by kernel_rfl) ?_
      repeat (gi_big_quiet_step (fail))
      refine wpQuietIn_nil ?_
      rintro _ ⟨nq, rfl⟩
      gi_wp2
      exact ⟨(keeps_flag W nq _ _).from _, .inl ⟨rfl, HNP.out⟩, .inl rfl⟩
  case done =>
    rintro D ys W hD rfl hI hK
    rw [HNE.out] at hI
    subst hT
    have HII := Aside0.mk hI
    have HKD := Aside0.mk hK
    have hDw : w.heap.size ≤ D := by omega
    clear hI hK
    go_wp2_with fail
    refine (AwakeG.awake_calls W).mono ?_
    rintro e Wa ⟨rfl, hba⟩
    have HIa := Aside0.mk (HII.out.kpt (n0 := 0) (kpT_below HII.out.hx.fx.b.size hba))
    have HKa := Aside0.mk ((hba.block D (Array.getElem?_eq_some_iff.1 HKD.out).1).trans HKD.out)
    have hcg := HIa.out.hx.fx.gc
    have hcn := HIa.out.hx.cn
    have hc16 := HIa.out.hx.c16
    have hcfl := HIa.out.hx.fx.fc
    have hffl := blk_frozen HIa.out.hx.fx.f 0
    clear hba
    go_wp2_with fail
    exact HIa.out.hx.fx.doneM hDw HKa.out _ rfl
  case stop =>
    rintro D cd pre W hD hpre ⟨hcd, hI⟩ hK
    rcases hcd with ⟨rfl, hno⟩ | ⟨rfl, hlen⟩
    · exact absurd hpre hno
    rcases hI with h | hI
    · cases h
    obtain ⟨m, hm⟩ : ∃ m, pre.length = m := ⟨_, rfl⟩
    rw [hm] at hI hlen
    subst hT
    have HII := Aside0.mk hI
    have HKD := Aside0.mk hK
    have hDw : w.heap.size ≤ D := by omega
    clear hI hK hpre hm
    refine wpIn_wide.2 ?_
    go_wp2_with fail
    refine (AwakeG.awake_calls W).mono ?_
    rintro e Wa ⟨rfl, hba⟩
    have HIa := Aside0.mk (HII.out.kpt (n0 := 0) (kpT_below HII.out.hx.fx.b.size hba))
    have HKa := Aside0.mk ((hba.block D (Array.getElem?_eq_some_iff.1 HKD.out).1).trans HKD.out)
    have hcg := HIa.out.hx.fx.gc
    have hcn := HIa.out.hx.cn
    have hc16 := HIa.out.hx.c16
    have hcs := HIa.out.hx.fx.sc
    have hcfl := HIa.out.hx.fx.fc
    have hffl := blk_frozen HIa.out.hx.fx.f 0
    have hst1 : ((m : Int) == stop) = true := beq_iff_eq.2 hlen
    clear hba hlen
    by_cases hmn : (m : Int) = (N : Int)
    · have hmn1 : ((m : Int) == (N : Int)) = true := beq_iff_eq.2 hmn
      clear hmn
      go_wp2_with fail
      exact HIa.out.hx.fx.doneM hDw HKa.out _ rfl
    · have hmn1 : ((m : Int) == (N : Int)) = false := beq_eq_false_iff_ne.2 hmn
      clear hmn
      go_wp2_with fail
      exact HIa.out.hx.fx.doneM hDw HKa.out _ rfl
theorem law_calls (w : World) (L : List S53) (A : Option Addr) (c : Nat) (parts stop : Int) (hc : L.length ≤ c) (hr : Kd.C k53 w A L.length L) (hv : ∀ v ∈ L, v.f2.length * 16 ≤ 140737488351232) (hl : L.length * 40 ≤ 140737488351232) :
    Calls Try.prog 6 #[.agg #[.slice A L.length c], .int .i64 parts, .int .i64 stop] w fun e w' => e = .returned (.bool true) ∧ Below w.heap.size w w' :=
  (callsIn_wide (n := 3)).1 (law_in 3 (by omega) w L A c parts stop hc hr hv hl)
end Go.Proofs.Ytbeefbhoccdicaa.PartsLaw
