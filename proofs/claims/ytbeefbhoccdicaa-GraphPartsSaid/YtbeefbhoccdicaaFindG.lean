/- A vertex is found: the binary search, walked. -/
import Derived.Test.YtbeefbhoccdicaaBaseG
namespace Go.Proofs.Ytbeefbhoccdicaa.FindG
open Go.RowKit Go.Proofs.YtbeefbhoccdicaaW.PrintWords Go.Proofs.YtbeefbhoccdicaaW.PrintLast Go.Proofs.YtbeefbhoccdicaaW.PrintMore Go.Proofs.Ytbeefbhoccdicaa.QGraphReads Go.Proofs.Ytbeefbhoccdicaa.WireNum Go.Proofs.Ytbeefbhoccdicaa.PutG
set_option linter.unusedVariables false

/-- The identity of the vertex at a place. -/
def idAt (l : List S53) (m : Nat) : Int := (l.getD m z53).f0
/-- Identities grow. -/
def Grows (l : List S53) : Prop := ∀ m, m + 1 < l.length → idAt l m < idAt l (m + 1)
theorem Grows.lt {l : List S53} (h : Grows l) {a : Nat} : ∀ {b : Nat}, a < b → b < l.length → idAt l a < idAt l b := by
  intro b
  induction b with
  | zero => intro h1; omega
  | succ b ih =>
    intro h1 h2
    have h3 := h b h2
    by_cases hab : a = b
    · subst hab; exact h3
    · exact Int.lt_trans (ih (by omega) (by omega)) h3
/-- The place of an identity, or where it would stand. -/
def lowR : List S53 → Int → Nat
  | [], _ => 0
  | v :: t, x => if v.f0 < x then lowR t x + 1 else 0
def isR (l : List S53) (x : Int) : Bool := decide (lowR l x < l.length) && (idAt l (lowR l x) == x)
theorem lowR_eq : ∀ (l : List S53) (x : Int) (i : Nat), i ≤ l.length → (∀ m, m < i → idAt l m < x) → (i < l.length → ¬ idAt l i < x) → lowR l x = i := by
  intro l
  induction l with
  | nil => intro x i h _ _; simp at h; simp [lowR, h]
  | cons v t ih =>
    intro x i h1 h2 h3
    cases i with
    | zero =>
      have := h3 (by simp)
      have hv : ¬ v.f0 < x := this
      simp [lowR, hv]
    | succ i =>
      have hv : v.f0 < x := h2 0 (by omega)
      rw [lowR, if_pos hv, ih x i (by simpa using h1) (fun m hm => h2 (m + 1) (by omega)) (fun hi => h3 (by simpa using hi))]
theorem lowR_le (l : List S53) (x : Int) : lowR l x ≤ l.length := by
  induction l with
  | nil => simp [lowR]
  | cons v t ih => rw [lowR]; split <;> simp <;> omega

theorem nan_calls (x : Int) (w : World) : Calls Try.prog 118 #[.int .i64 x] w fun e w' => e = .returned (.bool false) ∧ w = w' := by
  go_enter Try.func118, Try.ntmps118
  go_wp2
  go_ret
  exact ⟨rfl, rfl⟩

/-- Comparing, as a number. -/
def cmpR (x y : Int) : Int := if x < y then -1 else if x > y then 1 else 0
theorem cmp_calls (x y : Int) (w : World) : Calls Try.prog 90 #[.int .i64 x, .int .i64 y] w fun e w' => e = .returned (.int .i64 (cmpR x y)) ∧ w = w' := by
  go_enter Try.func90, Try.ntmps90
  go_wp2_with fail
  refine (nan_calls x _).mono ?_
  rintro e w1 ⟨rfl, rfl⟩
  go_wp2_with fail
  refine (nan_calls y _).mono ?_
  rintro e w1 ⟨rfl, rfl⟩
  go_wp2_with fail
  · have h1 : x < y := by assumption
    go_ret
    exact ⟨by rw [cmpR, if_pos h1]; rfl, rfl⟩
  · have h1 : y < x := by assumption
    go_ret
    exact ⟨by rw [cmpR, if_neg (by omega), if_pos h1]; rfl, rfl⟩
  · have h1 : y ≤ x := by assumption
    have h2 : x ≤ y := by assumption
    go_ret
    exact ⟨by rw [cmpR, if_neg (by omega), if_neg (by omega)]; rfl, rfl⟩

theorem find1_calls (a b x : Int) (u : Value) (w : World) : Calls Try.prog 89 #[.agg #[.int .i64 a, .int .i64 b, u], .int .i64 x] w fun e w' => e = .returned (.int .i64 (cmpR a x)) ∧ Below w.heap.size w w' := by
  go_enter Try.func89, Try.ntmps89
  go_wp2_with fail
  refine (cmp_calls a x _).mono ?_
  rintro e w1 ⟨rfl, rfl⟩
  go_wp2_with fail
  go_ret
  exact ⟨rfl, below_alloc (Below.refl _ _) _⟩

set_option maxHeartbeats 4000000 in
set_option maxRecDepth 100000 in
theorem search_calls (w : World) (l : List S53) (x : Int) (A : Option Addr) (c : Nat) (hr : Kd.C k53 w A l.length l) (hg : Grows l) (hn : l.length ≤ 256) :
    Calls Try.prog 88 #[.slice A l.length c, .int .i64 x, .func (.func 89) #[] #[]] w fun e w' => e = .returned (.tuple #[.int .i64 (lowR l x), .bool (isR l x)]) ∧ Below w.heap.size w w' := by
  have HR := Aside0.mk hr
  have HG := Aside0.mk hg
  clear hr hg
  go_enter Try.func88, Try.ntmps88
  go_wp2_with fail
  go_loopw [9, 10] (fun v9 v10 wr => ∃ i j : Nat, v9 = .int .i64 (i : Int) ∧ v10 = .int .i64 (j : Int) ∧ i ≤ j ∧ j ≤ l.length ∧ Aside0 (∀ m, m < i → idAt l m < x) ∧ Aside0 (∀ m, j ≤ m → m < l.length → x ≤ idAt l m) ∧ Aside0 (Below w.heap.size w wr)) (fun v9 v10 _ => (intOf v10 - intOf v9).toNat)
  case atStart => exact ⟨0, l.length, rfl, rfl, Nat.zero_le _, Nat.le_refl _, ⟨fun m hm => by omega⟩, ⟨fun m h1 h2 => by omega⟩, ⟨Below.refl _ _⟩⟩
  case round =>
    obtain ⟨i, j, rfl, rfl, hij, hjn, HP, HS, HB⟩ := hrel
    rcases Nat.lt_or_ge i j with hlt | hge
    · have hm0 : ((i : Int) + (j : Int)) / 2 = (((i + j) / 2 : Nat) : Int) := by omega
      have hm1 : i ≤ (i + j) / 2 := by omega
      have hm2 : (i + j) / 2 < j := by omega
      generalize (i + j) / 2 = m at hm0 hm1 hm2
      have hlt1 : ((m : Int) < (l.length : Int)) = True := eq_true (by omega)
      obtain ⟨ad, A2, c2, hA, hx0, hx1, hx2, hl2, hr2⟩ := at_T53 HR.out (m : Int) (by omega) (by omega)
      subst hA
      replace hx0 := (HB.out.cell (World.block_lt_of_cell? _ _ hx0)).trans hx0
      replace hx1 := (HB.out.cell (World.block_lt_of_cell? _ _ hx1)).trans hx1
      replace hx2 := (HB.out.cell (World.block_lt_of_cell? _ _ hx2)).trans hx2
      rw [Int.toNat_natCast] at hx0 hx1 hx2
      have hid : idAt l m = (rd_T53 l (m : Int)).f0 := rfl
      generalize rd_T53 l (m : Int) = ed at *
      clear hr2 hl2
      go_wp2_with fail
      refine (find1_calls ed.f0 ed.f1 x _ _).mono ?_
      rintro e w4 ⟨rfl, hB4⟩
      have HB4 := Aside0.mk (below_then HB.out HB.out.size hB4)
      clear hB4
      rcases Int.lt_or_le ed.f0 x with hc | hc
      · have hcm : cmpR ed.f0 x = -1 := by rw [cmpR, if_pos hc]
        go_wp2_with fail
        go_roundw
        case rel =>
          refine ⟨m + 1, j, by go_num, rfl, by omega, hjn, ⟨?_⟩, HS, HB4⟩
          intro q hq
          by_cases hqm : q = m
          · subst hqm; rw [hid]; exact hc
          · have := HG.out.lt (show q < m by omega) (by omega)
            rw [hid] at this
            exact Int.lt_trans this hc
        case measure => simp [intOf]; omega
      · have hcm : (cmpR ed.f0 x < 0) = False := eq_false (by rw [cmpR, if_neg (by omega)]; split <;> omega)
        go_wp2_with fail
        go_roundw
        case rel =>
          refine ⟨i, m, rfl, rfl, hm1, by omega, HP, ⟨?_⟩, HB4⟩
          intro q hq1 hq2
          by_cases hqm : q = m
          · subst hqm; rw [hid]; omega
          · have := HG.out.lt (show m < q by omega) hq2
            rw [hid] at this
            omega
        case measure => simp [intOf]; omega
    · have hk1 : i = j := by omega
      subst hk1
      clear hge
      have hlow' := lowR_eq l x i hjn HP.out (fun hi => Int.not_lt.2 (HS.out i (Nat.le_refl _) hi))
      rcases Nat.lt_or_ge i l.length with hlt | hge
      · have hlt1 : ((i : Int) < (l.length : Int)) = True := eq_true (by omega)
        obtain ⟨ad, A2, c2, hA, hx0, hx1, hx2, hl2, hr2⟩ := at_T53 HR.out (i : Int) (by omega) (by omega)
        subst hA
        replace hx0 := (HB.out.cell (World.block_lt_of_cell? _ _ hx0)).trans hx0
        replace hx1 := (HB.out.cell (World.block_lt_of_cell? _ _ hx1)).trans hx1
        replace hx2 := (HB.out.cell (World.block_lt_of_cell? _ _ hx2)).trans hx2
        rw [Int.toNat_natCast] at hx0 hx1 hx2
        have hid : idAt l i = (rd_T53 l (i : Int)).f0 := rfl
        generalize rd_T53 l (i : Int) = ed at *
        clear hr2 hl2
        go_wp2_with fail
        refine (find1_calls ed.f0 ed.f1 x _ _).mono ?_
        rintro e w4 ⟨rfl, hB4⟩
        have HB4 := Aside0.mk (below_then HB.out HB.out.size hB4)
        clear hB4
        have hlow := hlow'
        clear hlow'
        have hcm : decide (cmpR ed.f0 x = 0) = isR l x := by
          rw [isR, hlow, decide_eq_true hlt, hid, Bool.true_and, cmpR]
          by_cases h1 : ed.f0 < x
          · rw [if_pos h1]; have : ed.f0 ≠ x := by omega
            simp [this]
          · rw [if_neg h1]
            by_cases h2 : ed.f0 > x
            · rw [if_pos h2]; have : ed.f0 ≠ x := by omega
              simp [this]
            · rw [if_neg h2]; have : ed.f0 = x := by omega
              simp [this]
        go_wp2_with fail
        go_ret2
        refine ⟨?_, HB4.out⟩
        first | rfl | (rw [hlow, ← hcm]; rfl) | (rw [← hcm]; rfl)
      · have hi : i = l.length := by omega
        have hlow := Aside0.mk hlow'
        have hcm : isR l x = false := by rw [isR, hlow', hi]; simp
        have HCM := Aside0.mk hcm
        clear hcm hlow'
        have hlt1 : ((i : Int) < (l.length : Int)) = False := eq_false (by omega)
        clear hge
        go_wp2_with fail
        go_ret2
        refine ⟨?_, HB.out⟩
        rw [hlow.out, HCM.out]
        rfl

theorem find_calls (w : World) (l : List S53) (x : Int) (A : Option Addr) (c : Nat) (hr : Kd.C k53 w A l.length l) (hg : Grows l) (hn : l.length ≤ 256) :
    Calls Try.prog 36 #[.agg #[.slice A l.length c], .int .i64 x] w fun e w' => e = .returned (.tuple #[.int .i64 (lowR l x), .bool (isR l x)]) ∧ Below w.heap.size w w' := by
  have HR := Aside0.mk hr
  clear hr
  go_enter Try.func36, Try.ntmps36
  go_wp2_with fail
  refine (search_calls _ l x A c (Kd.C_alloc HR.out _) hg hn).mono ?_
  rintro e w1 ⟨rfl, hb⟩
  have HB := Aside0.mk (below_then (below_alloc (Below.refl _ _) _) (by rw [World.size_alloc]; omega) hb)
  clear hb
  go_wp2_with fail
  go_ret2
  exact ⟨rfl, HB.out⟩
end Go.Proofs.Ytbeefbhoccdicaa.FindG
