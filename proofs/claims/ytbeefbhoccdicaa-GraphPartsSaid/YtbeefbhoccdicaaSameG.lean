/- Two graphs are compared: walked. -/
import Derived.Test.YtbeefbhoccdicaaEncG
import Derived.BigQuiet
import Derived.Test.YtbeefbhoccdicaaWEqStruct
namespace Go.Proofs.Ytbeefbhoccdicaa.SameG
open Go.RowKit Go.Shelf Go.Proofs.YtbeefbhoccdicaaW.PrintWords Go.Proofs.YtbeefbhoccdicaaW.PrintLast Go.Proofs.YtbeefbhoccdicaaW.PrintMore Go.Proofs.Ytbeefbhoccdicaa.QGraphReads Go.Proofs.Ytbeefbhoccdicaa.WireNum Go.Proofs.Ytbeefbhoccdicaa.WireRead Go.Proofs.Ytbeefbhoccdicaa.Writer Go.Proofs.Ytbeefbhoccdicaa.PutG Go.Proofs.Ytbeefbhoccdicaa.FindG Go.Proofs.Ytbeefbhoccdicaa.EdgesG Go.Proofs.Ytbeefbhoccdicaa.AllG Go.Proofs.Ytbeefbhoccdicaa.CheckG Go.Proofs.Ytbeefbhoccdicaa.EncG
set_option linter.unusedVariables false

theorem list_eq {α : Type} (z : α) (xs ys : List α) (h : xs.length = ys.length) (h2 : ∀ m, m < xs.length → xs.getD m z = ys.getD m z) : xs = ys := by
  apply List.ext_getElem h
  intro i h3 h4
  have := h2 i h3
  rw [List.getD_eq_getElem?_getD, List.getD_eq_getElem?_getD, List.getElem?_eq_getElem h3, List.getElem?_eq_getElem h4] at this
  exact this

theorem eqA67 (d : Nat) (w : World) (x0 : Int) (x1 : Int) (y0 : Int) (y1 : Int) :
    (Op.equalIn (d + 2) 67 (.agg #[.int .i64 x0, .int .i64 x1]) (.agg #[.int .i64 y0, .int .i64 y1])).run Try.prog w = .ok (x0 == y0 && (x1 == y1)) w := by
  refine eqA_of Try.underlying67 (by kernel_rfl) ?_
  refine eqf_cons (by rfl) (by go_simp; rfl) (by go_simp; rfl) (by go_simp) ?_
  exact eqf_last (by rfl) (by go_simp; rfl) (by go_simp; rfl) (by go_simp)
attribute [local go_sem high] eqA67

set_option maxHeartbeats 4000000 in
set_option maxRecDepth 100000 in
theorem equal_calls (w : World) (xs ys : List S67) (A B : Option Addr) (c d : Nat) (hr : Kd.C k67 w A xs.length xs) (hs : Kd.C k67 w B ys.length ys) :
    Calls Try.prog 81 #[.slice A xs.length c, .slice B ys.length d] w fun e w' => (∃ b, e = .returned (.bool b) ∧ Tells b (xs = ys)) ∧ Below w.heap.size w w' := by
  have hmax : xs.length ≤ 9223372036854775807 := hr.2.1
  have HR := Aside0.mk hr
  have HS := Aside0.mk hs
  clear hr hs
  by_cases hlen : xs.length = ys.length
  · have hl1 : ((xs.length : Int) != (ys.length : Int)) = false := by simp; omega
    have HL := Aside0.mk hlen
    clear hlen
    go_enter Try.func81, Try.ntmps81
    go_wp2_with fail
    go_loopw [13] (fun v13 wr => ∃ k : Nat, v13 = .int .i64 (k : Int) ∧ k ≤ xs.length ∧ Aside0 (∀ m, m < k → xs.getD m z67 = ys.getD m z67) ∧ Aside0 (Below w.heap.size w wr)) (fun v13 _ => (xs.length - (intOf v13)).toNat)
    case atStart => exact ⟨0, rfl, Nat.zero_le _, ⟨fun m hm => by omega⟩, ⟨Below.refl _ _⟩⟩
    case round =>
      obtain ⟨k, rfl, hk, HP, HB⟩ := hrel
      rcases Nat.lt_or_ge k xs.length with hlt | hge
      · have hlt1 : ((k : Int) < (xs.length : Int)) = True := eq_true (by omega)
        have hlt2 : ((k : Int) < (ys.length : Int)) = True := eq_true (by have := HL.out; omega)
        obtain ⟨ad, hA, hx0, hx1⟩ := at_T67 HR.out (k : Int) (by omega) (by omega)
        subst hA
        replace hx0 := (HB.out.cell (World.block_lt_of_cell? _ _ hx0)).trans hx0
        replace hx1 := (HB.out.cell (World.block_lt_of_cell? _ _ hx1)).trans hx1
        rw [Int.toNat_natCast] at hx0 hx1
        obtain ⟨bd, hBd, hy0, hy1⟩ := at_T67 HS.out (k : Int) (by omega) (by have := HL.out; omega)
        subst hBd
        replace hy0 := (HB.out.cell (World.block_lt_of_cell? _ _ hy0)).trans hy0
        replace hy1 := (HB.out.cell (World.block_lt_of_cell? _ _ hy1)).trans hy1
        rw [Int.toNat_natCast] at hy0 hy1
        have HX := Aside0.mk (show xs.getD k z67 = rd_T67 xs (k : Int) from rfl)
        have HY := Aside0.mk (show ys.getD k z67 = rd_T67 ys (k : Int) from rfl)
        generalize rd_T67 xs (k : Int) = ex at *
        generalize rd_T67 ys (k : Int) = ey at *
        obtain ⟨x0, x1⟩ := ex
        obtain ⟨y0, y1⟩ := ey
        simp only at hx0 hx1 hy0 hy1
        go_wp2_with fail
        go_quiet (fail)
        go_wp2_with fail
        · have hne : (!x0 == y0) = true ∨ (!x1 == y1) = true := by assumption
          go_ret
          refine ⟨⟨false, rfl, ?_⟩, pw_below_drewN HB.out _⟩
          refine ⟨fun h => (by cases h), fun h => ?_⟩
          have h1 : xs.getD k z67 = ys.getD k z67 := by rw [h]
          rw [HX.out, HY.out] at h1
          injection h1 with h1 h2
          subst h1 h2
          simp at hne
        · have heq : (!x0 == y0) = false ∧ (!x1 == y1) = false := by assumption
          go_roundw
          case rel =>
            refine ⟨k + 1, by go_num, by omega, ⟨?_⟩, ⟨pw_below_drewN HB.out _⟩⟩
            intro m hm
            by_cases hmk : m = k
            · subst hmk
              rw [HX.out, HY.out]
              simp at heq
              rw [heq.1, heq.2]
            · exact HP.out m (by omega)
          case measure => simp [intOf]; omega
      · have hk1 : k = xs.length := by omega
        subst hk1
        clear hge
        go_wp2_with fail
        go_ret
        refine ⟨⟨true, rfl, ?_⟩, HB.out⟩
        exact ⟨fun _ => list_eq z67 xs ys HL.out HP.out, fun _ => rfl⟩
  · have hl1 : ((xs.length : Int) != (ys.length : Int)) = true := by simp; omega
    have HL := Aside0.mk hlen
    clear hlen
    go_enter Try.func81, Try.ntmps81
    go_wp2_with fail
    go_ret
    refine ⟨⟨false, rfl, ?_⟩, Below.refl _ _⟩
    exact ⟨fun h => (by cases h), fun h => absurd (by rw [h]) HL.out⟩

set_option maxHeartbeats 4000000 in
set_option maxRecDepth 100000 in
theorem same1_calls (w : World) (x y : S53) (A B : Option Addr) (c d : Nat) (hr : Kd.C k67 w A x.f2.length x.f2) (hs : Kd.C k67 w B y.f2.length y.f2) :
    Calls Try.prog 80 #[.agg #[.int .i64 x.f0, .int .i64 x.f1, .slice A x.f2.length c], .agg #[.int .i64 y.f0, .int .i64 y.f1, .slice B y.f2.length d]] w fun e w' => (∃ b, e = .returned (.bool b) ∧ Tells b (x = y)) ∧ Below w.heap.size w w' := by
  obtain ⟨x0, x1, xs⟩ := x
  obtain ⟨y0, y1, ys⟩ := y
  simp only at hr hs ⊢
  have HR := Aside0.mk hr
  have HS := Aside0.mk hs
  clear hr hs
  by_cases h0 : x0 = y0
  · by_cases h1 : x1 = y1
    · subst h0 h1
      go_enter Try.func80, Try.ntmps80
      go_wp2_with fail
      refine (equal_calls _ xs ys A B c d (Kd.C_alloc (Kd.C_alloc HR.out _) _) (Kd.C_alloc (Kd.C_alloc HS.out _) _)).mono ?_
      rintro e w1 ⟨⟨b, rfl, hT⟩, hb⟩
      have HB := Aside0.mk (below_then (below_alloc (below_alloc (Below.refl _ _) _) _) (by rw [World.size_alloc, World.size_alloc]; omega) hb)
      have HT := Aside0.mk hT
      clear hb hT
      go_wp2_with fail
      go_ret
      refine ⟨⟨b, rfl, ?_⟩, HB.out⟩
      refine ⟨fun h => by rw [HT.out.1 h], fun h => HT.out.2 ?_⟩
      injection h
    · have h1' : (x1 == y1) = false := by simp [h1]
      have H1 := Aside0.mk h1
      subst h0
      clear h1
      go_enter Try.func80, Try.ntmps80
      go_wp2_with fail
      go_ret
      refine ⟨⟨false, by first | rfl | simp [H1.out], ?_⟩, below_alloc (below_alloc (Below.refl _ _) _) _⟩
      exact ⟨fun h => (by cases h), fun h => absurd (by injection h) H1.out⟩
  · have h0' : (x0 == y0) = false := by simp [h0]
    have H0 := Aside0.mk h0
    clear h0
    go_enter Try.func80, Try.ntmps80
    go_wp2_with fail
    go_ret
    refine ⟨⟨false, by first | rfl | simp [H0.out], ?_⟩, below_alloc (below_alloc (Below.refl _ _) _) _⟩
    exact ⟨fun h => (by cases h), fun h => absurd (by injection h) H0.out⟩

set_option maxHeartbeats 4000000 in
set_option maxRecDepth 100000 in
theorem equalf_calls (w : World) (xs ys : List S53) (A B : Option Addr) (c d : Nat) (hr : Kd.C k53 w A xs.length xs) (hs : Kd.C k53 w B ys.length ys) :
    Calls Try.prog 79 #[.slice A xs.length c, .slice B ys.length d, .func (.func 80) #[] #[]] w fun e w' => (∃ b, e = .returned (.bool b) ∧ Tells b (xs = ys)) ∧ Below w.heap.size w w' := by
  have hmax : xs.length ≤ 9223372036854775807 := hr.2.1
  have HR := Aside0.mk hr
  have HS := Aside0.mk hs
  clear hr hs
  by_cases hlen : xs.length = ys.length
  · have hl1 : ((xs.length : Int) != (ys.length : Int)) = false := by simp; omega
    have HL := Aside0.mk hlen
    clear hlen
    go_enter Try.func79, Try.ntmps79
    go_wp2_with fail
    go_loopw [17] (fun v17 wr => ∃ k : Nat, v17 = .int .i64 (k : Int) ∧ k ≤ xs.length ∧ Aside0 (∀ m, m < k → xs.getD m z53 = ys.getD m z53) ∧ Aside0 (Below w.heap.size w wr)) (fun v17 _ => (xs.length - (intOf v17)).toNat)
    case atStart => exact ⟨0, rfl, Nat.zero_le _, ⟨fun m hm => by omega⟩, ⟨Below.refl _ _⟩⟩
    case round =>
      obtain ⟨k, rfl, hk, HP, HB⟩ := hrel
      rcases Nat.lt_or_ge k xs.length with hlt | hge
      · have hlt1 : ((k : Int) < (xs.length : Int)) = True := eq_true (by omega)
        have hlt2 : ((k : Int) < (ys.length : Int)) = True := eq_true (by have := HL.out; omega)
        obtain ⟨ad, A2, c2, hA, hx0, hx1, hx2, hl2, hr2⟩ := at_T53 HR.out (k : Int) (by omega) (by omega)
        subst hA
        replace hx0 := (HB.out.cell (World.block_lt_of_cell? _ _ hx0)).trans hx0
        replace hx1 := (HB.out.cell (World.block_lt_of_cell? _ _ hx1)).trans hx1
        replace hx2 := (HB.out.cell (World.block_lt_of_cell? _ _ hx2)).trans hx2
        rw [Int.toNat_natCast] at hx0 hx1 hx2
        obtain ⟨bd, B2, d2, hBd, hy0, hy1, hy2, hm2, hs2⟩ := at_T53 HS.out (k : Int) (by omega) (by have := HL.out; omega)
        subst hBd
        replace hy0 := ((HB.out.alloc HB.out.size (.cells #[.int .i64 (rd_T53 xs (k : Int)).f0, .int .i64 (rd_T53 xs (k : Int)).f1, .slice A2 (rd_T53 xs (k : Int)).f2.length c2] 53)).cell (World.block_lt_of_cell? _ _ hy0)).trans hy0
        replace hy1 := ((HB.out.alloc HB.out.size (.cells #[.int .i64 (rd_T53 xs (k : Int)).f0, .int .i64 (rd_T53 xs (k : Int)).f1, .slice A2 (rd_T53 xs (k : Int)).f2.length c2] 53)).cell (World.block_lt_of_cell? _ _ hy1)).trans hy1
        replace hy2 := ((HB.out.alloc HB.out.size (.cells #[.int .i64 (rd_T53 xs (k : Int)).f0, .int .i64 (rd_T53 xs (k : Int)).f1, .slice A2 (rd_T53 xs (k : Int)).f2.length c2] 53)).cell (World.block_lt_of_cell? _ _ hy2)).trans hy2
        rw [Int.toNat_natCast] at hy0 hy1 hy2
        have HX := Aside0.mk (show xs.getD k z53 = rd_T53 xs (k : Int) from rfl)
        have HY := Aside0.mk (show ys.getD k z53 = rd_T53 ys (k : Int) from rfl)
        generalize rd_T53 xs (k : Int) = ex at *
        generalize rd_T53 ys (k : Int) = ey at *
        have HR2 := Aside0.mk hr2
        have HS2 := Aside0.mk hs2
        clear hr2 hs2
        go_wp2_with fail
        refine (same1_calls _ ex ey A2 B2 c2 d2 (Kd.C_below HR2.out ((HB.out.alloc HB.out.size _).alloc (by have := HB.out.size; rw [World.size_alloc]; omega) _)) (Kd.C_below HS2.out ((HB.out.alloc HB.out.size _).alloc (by have := HB.out.size; rw [World.size_alloc]; omega) _))).mono ?_
        rintro e w1 ⟨⟨b, rfl, hT⟩, hb⟩
        have HB1 := Aside0.mk (below_then ((HB.out.alloc HB.out.size _).alloc (by have := HB.out.size; rw [World.size_alloc]; omega) _) (by have := HB.out.size; rw [World.size_alloc, World.size_alloc]; omega) hb)
        have HT := Aside0.mk hT
        clear hb hT
        cases b
        · go_wp2_with fail
          go_ret
          refine ⟨⟨false, rfl, ?_⟩, HB1.out⟩
          refine ⟨fun h => (by cases h), fun h => ?_⟩
          have h1 : xs.getD k z53 = ys.getD k z53 := by rw [h]
          rw [HX.out, HY.out] at h1
          exact HT.out.2 h1
        · go_wp2_with fail
          go_roundw
          case rel =>
            refine ⟨k + 1, by go_num, by omega, ⟨?_⟩, HB1⟩
            intro m hm
            by_cases hmk : m = k
            · subst hmk
              rw [HX.out, HY.out]
              exact HT.out.1 rfl
            · exact HP.out m (by omega)
          case measure => simp [intOf]; omega
      · have hk1 : k = xs.length := by omega
        subst hk1
        clear hge
        go_wp2_with fail
        go_ret
        refine ⟨⟨true, rfl, ?_⟩, HB.out⟩
        exact ⟨fun _ => list_eq z53 xs ys HL.out HP.out, fun _ => rfl⟩
  · have hl1 : ((xs.length : Int) != (ys.length : Int)) = true := by simp; omega
    have HL := Aside0.mk hlen
    clear hlen
    go_enter Try.func79, Try.ntmps79
    go_wp2_with fail
    go_ret
    refine ⟨⟨false, rfl, ?_⟩, Below.refl _ _⟩
    exact ⟨fun h => (by cases h), fun h => absurd (by rw [h]) HL.out⟩

theorem same_calls (w : World) (xs ys : List S53) (A B : Option Addr) (c d : Nat) (hr : Kd.C k53 w A xs.length xs) (hs : Kd.C k53 w B ys.length ys) :
    Calls Try.prog 28 #[.agg #[.slice A xs.length c], .agg #[.slice B ys.length d]] w fun e w' => (∃ b, e = .returned (.bool b) ∧ Tells b (xs = ys)) ∧ Below w.heap.size w w' := by
  have HR := Aside0.mk hr
  have HS := Aside0.mk hs
  clear hr hs
  go_enter Try.func28, Try.ntmps28
  go_wp2_with fail
  refine (equalf_calls _ xs ys A B c d (Kd.C_alloc (Kd.C_alloc HR.out _) _) (Kd.C_alloc (Kd.C_alloc HS.out _) _)).mono ?_
  rintro e w1 ⟨⟨b, rfl, hT⟩, hb⟩
  have HB := Aside0.mk (below_then (below_alloc (below_alloc (Below.refl _ _) _) _) (by rw [World.size_alloc, World.size_alloc]; omega) hb)
  have HT := Aside0.mk hT
  clear hb hT
  go_wp2_with fail
  go_ret
  exact ⟨⟨b, rfl, HT.out⟩, HB.out⟩
end Go.Proofs.Ytbeefbhoccdicaa.SameG
