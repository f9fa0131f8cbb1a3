/- Written by a program of this session (the kit's print, with one case more: a pointer held against nil). -/
import Derived.Test.YtbeefbhoccdicaaQGraphReadsx0
import Derived.Test.YtbeefbhoccdicaaQGraphReadsx5
namespace Go.Proofs.Ytbeefbhoccdicaa.QGraphReads
open Go.RowKit Go.Proofs.YtbeefbhoccdicaaW.PrintWords Go.Proofs.YtbeefbhoccdicaaW.PrintLast Go.Proofs.YtbeefbhoccdicaaW.PrintMore
attribute [local go_sem] max2_int min2_int max_two min_two max_three min_three max_four min_four   -- for this text's walks alone
set_option linter.unusedVariables false
set_option linter.unusedSimpArgs false

/-! ### cohortref03_Check: function 15 -/
mutual
def cohortref03_Check.l0 : Nat → List (S59) → Int → Option (Int)
  | 0, _, _ => none
  | k + 1, x0, x3 => if x3 < (x0.length : Int) then (if 0 ≤ (wrap64 (x3 - 1)) then (if (wrap64 (x3 - 1)) < (x0.length : Int) then (if 0 ≤ x3 then (if ((rd_T59 x0 (wrap64 (x3 - 1))).f0) ≥ ((rd_T59 x0 x3).f0) then (some 30) else (cohortref03_Check.l0 k x0 (wrap64 (x3 + 1)))) else (none)) else (none)) else (none)) else ((cohortref03_Edges.f k x0).bind fun t268 => (if t268 > 2048 then (some 31) else (cohortref03_Check.l1 k x0 0)))
def cohortref03_Check.l1 : Nat → List (S59) → Int → Option (Int)
  | 0, _, _ => none
  | k + 1, x0, x4 => if x4 < (x0.length : Int) then (if 0 ≤ x4 then (cohortref03_Check.l2 k x0 x4 ((rd_T59 x0 x4).f2) 0) else (none)) else (some 0)
def cohortref03_Check.l2 : Nat → List (S59) → Int → List (S140) → Int → Option (Int)
  | 0, _, _, _, _ => none
  | k + 1, x0, x4, x5, x6 => if x6 < (x5.length : Int) then (if 0 ≤ x6 then ((cohortref03_Find.f k x0 ((rd_T140 x5 x6).f0)).bind fun bt271 => (if bt271.2 = true then (if x6 > 0 then (if 0 ≤ (wrap64 (x6 - 1)) then (if (wrap64 (x6 - 1)) < (x5.length : Int) then (if ((rd_T140 x5 (wrap64 (x6 - 1))).f0) ≥ ((rd_T140 x5 x6).f0) then (some 31) else (cohortref03_Check.l2 k x0 x4 x5 (wrap64 (x6 + 1)))) else (none)) else (none)) else (cohortref03_Check.l2 k x0 x4 x5 (wrap64 (x6 + 1)))) else (some 31))) else (none)) else (cohortref03_Check.l1 k x0 (wrap64 (x4 + 1)))
end
def cohortref03_Check.f (k : Nat) (l0 : List (S59)) : Option (Int) := if (l0.length : Int) > 256 then (some 30) else (cohortref03_Check.l0 k l0 1)
theorem cohortref03_Check.mono_l : ∀ k, (∀ y0 y1, LeO (cohortref03_Check.l0 k y0 y1) (cohortref03_Check.l0 (k + 1) y0 y1)) ∧ (∀ y0 y1, LeO (cohortref03_Check.l1 k y0 y1) (cohortref03_Check.l1 (k + 1) y0 y1)) ∧ (∀ y0 y1 y2 y3, LeO (cohortref03_Check.l2 k y0 y1 y2 y3) (cohortref03_Check.l2 (k + 1) y0 y1 y2 y3))
  | 0 => ⟨fun _ _ r h => by simp [cohortref03_Check.l0] at h, fun _ _ r h => by simp [cohortref03_Check.l1] at h, fun _ _ _ _ r h => by simp [cohortref03_Check.l2] at h⟩
  | k + 1 => by
    obtain ⟨ih0, ih1, ih2⟩ := cohortref03_Check.mono_l k
    refine ⟨?_, ?_, ?_⟩
    · intro y0 y1
      unfold cohortref03_Check.l0
      repeat' first
      | (with_reducible exact ih0 _ _)
      | (with_reducible exact ih1 _ _)
      | (with_reducible exact ih2 _ _ _ _)
      | (with_reducible exact cohortref03_Edges.mono _ _)
      | (with_reducible exact cohortref03_Find.mono _ _ _)
      | (with_reducible exact LeO.refl _)
      | (with_reducible exact LeO.none _)
      | (with_reducible refine LeO.ite ?_ ?_)
      | (with_reducible refine LeO.bind ?_ (fun _ => ?_))
      | exact ih0 _ _
      | exact ih1 _ _
      | exact ih2 _ _ _ _
      | exact cohortref03_Edges.mono _ _
      | exact cohortref03_Find.mono _ _ _
      | exact LeO.none _
      | refine LeO.ite ?_ ?_
      | refine LeO.bind ?_ (fun _ => ?_)
    · intro y0 y1
      unfold cohortref03_Check.l1
      repeat' first
      | (with_reducible exact ih0 _ _)
      | (with_reducible exact ih1 _ _)
      | (with_reducible exact ih2 _ _ _ _)
      | (with_reducible exact cohortref03_Edges.mono _ _)
      | (with_reducible exact cohortref03_Find.mono _ _ _)
      | (with_reducible exact LeO.refl _)
      | (with_reducible exact LeO.none _)
      | (with_reducible refine LeO.ite ?_ ?_)
      | (with_reducible refine LeO.bind ?_ (fun _ => ?_))
      | exact ih0 _ _
      | exact ih1 _ _
      | exact ih2 _ _ _ _
      | exact cohortref03_Edges.mono _ _
      | exact cohortref03_Find.mono _ _ _
      | exact LeO.none _
      | refine LeO.ite ?_ ?_
      | refine LeO.bind ?_ (fun _ => ?_)
    · intro y0 y1 y2 y3
      unfold cohortref03_Check.l2
      repeat' first
      | (with_reducible exact ih0 _ _)
      | (with_reducible exact ih1 _ _)
      | (with_reducible exact ih2 _ _ _ _)
      | (with_reducible exact cohortref03_Edges.mono _ _)
      | (with_reducible exact cohortref03_Find.mono _ _ _)
      | (with_reducible exact LeO.refl _)
      | (with_reducible exact LeO.none _)
      | (with_reducible refine LeO.ite ?_ ?_)
      | (with_reducible refine LeO.bind ?_ (fun _ => ?_))
      | exact ih0 _ _
      | exact ih1 _ _
      | exact ih2 _ _ _ _
      | exact cohortref03_Edges.mono _ _
      | exact cohortref03_Find.mono _ _ _
      | exact LeO.none _
      | refine LeO.ite ?_ ?_
      | refine LeO.bind ?_ (fun _ => ?_)
theorem cohortref03_Check.mono : ∀ a0 k, LeO (cohortref03_Check.f k a0) (cohortref03_Check.f (k + 1) a0) := by
  intro a0 k
  obtain ⟨ih0, ih1, ih2⟩ := cohortref03_Check.mono_l k
  unfold cohortref03_Check.f
  repeat' first
      | (with_reducible exact ih0 _ _)
      | (with_reducible exact ih1 _ _)
      | (with_reducible exact ih2 _ _ _ _)
      | (with_reducible exact cohortref03_Edges.mono _ _)
      | (with_reducible exact cohortref03_Find.mono _ _ _)
      | (with_reducible exact LeO.refl _)
      | (with_reducible exact LeO.none _)
      | (with_reducible refine LeO.ite ?_ ?_)
      | (with_reducible refine LeO.bind ?_ (fun _ => ?_))
      | exact ih0 _ _
      | exact ih1 _ _
      | exact ih2 _ _ _ _
      | exact cohortref03_Edges.mono _ _
      | exact cohortref03_Find.mono _ _ _
      | exact LeO.none _
      | refine LeO.ite ?_ ?_
      | refine LeO.bind ?_ (fun _ => ?_)
set_option maxHeartbeats 8000000 in
set_option maxRecDepth 100000 in
theorem cohortref03_Check.calls (k : Nat) (A0 : Option Addr) (c0 : Nat) (l0 : List (S59)) (r : Int) (w : World) (hr0 : Kd.C k59 w A0 l0.length l0) (hc0 : l0.length ≤ c0) (h : cohortref03_Check.f k l0 = some r) :
    Calls Try.prog 15 #[.slice A0 l0.length c0] w fun e w' => e = .returned (.int .i64 r) ∧ Drawn0 w w' := by
  have HR0 := Aside0.mk hr0
  have HC0 := Aside0.mk hc0
  clear hr0 hc0
  have H : (if (l0.length : Int) > 256 then (some 30) else (cohortref03_Check.l0 k l0 1)) = some r := h
  clear h
  by_cases c2 : (l0.length : Int) > 256
  · rw [if_pos c2] at H
    have c2b0 : decide (256 < (l0.length : Int)) = true := decide_eq_true c2
    have c2b1 : decide (256 < l0.length) = true := decide_eq_true (by omega)
    clear c2
    obtain rfl := Option.some.inj H
    go_enter Try.func15, Try.ntmps15
    go_wp2
    repeat (go_quiet (fail); try go_wp2)
    go_ret
    exact ⟨by first | rfl | (simp; done) | (simp [*]; done), by repeat (first | exact Drawn0.refl _ | apply Drawn0.step)⟩
  · rw [if_neg c2] at H
    have c2b0 : decide (256 < (l0.length : Int)) = false := decide_eq_false c2
    have c2b1 : decide (256 < l0.length) = false := decide_eq_false (by omega)
    clear c2
    have H' := Aside0.mk H
    clear H
    go_enter Try.func15, Try.ntmps15
    go_wp2
    repeat (go_quiet (fail); try go_wp2)
    go_loopg [3] k (fun kq v3 w' => ∃ (x3_1 : Int), v3 = .int .i64 x3_1 ∧ Aside0 (cohortref03_Check.l0 kq l0 x3_1 = some r) ∧ Aside0 (kq ≤ k) ∧ Drawn0 w w')
    case atStart => exact ⟨(1), (by first | rfl | (simp; done) | (simp [*]; done)), H', ⟨Nat.le_refl _⟩, by repeat (first | exact Drawn0.refl _ | apply Drawn0.step)⟩
    case round =>
      clear H'
      try clear c1
      try clear c2
      try clear c2b0
      try clear c2b1
      try clear p2
      obtain ⟨x3_1, rfl, HA, HK1, ⟨m1, rfl⟩⟩ := hrel
      cases gk with
      | zero => exact absurd HA.out (by simp [cohortref03_Check.l0])
      | succ k1 =>
        have H := HA.out
        clear HA
        simp only [cohortref03_Check.l0] at H
        by_cases c3 : x3_1 < (l0.length : Int)
        · rw [if_pos c3] at H
          have c3b0 : decide (x3_1 < (l0.length : Int)) = true := decide_eq_true c3
          clear c3
          obtain ⟨ji4, hji4⟩ : ∃ j_ : Int, (wrap64 (x3_1 - 1)) = j_ := ⟨_, rfl⟩
          replace H : (if 0 ≤ (ji4) then (if (ji4) < (l0.length : Int) then (if 0 ≤ x3_1 then (if ((rd_T59 l0 (ji4)).f0) ≥ ((rd_T59 l0 x3_1).f0) then (some 30) else (cohortref03_Check.l0 k1 l0 (wrap64 (x3_1 + 1)))) else (none)) else (none)) else (none)) = some r := by first | (rw [hji4] at H; exact H) | (simp only [hji4] at H ⊢; exact H)
          have hji4w : (IntKind.i64.wrap (x3_1 - 1)) = ji4 := (i64_w _).trans hji4
          by_cases c5 : 0 ≤ (ji4)
          · rw [if_pos c5] at H
            have c5b0 : decide (0 ≤ (ji4)) = true := decide_eq_true c5
            clear c5
            by_cases c6 : (ji4) < (l0.length : Int)
            · rw [if_pos c6] at H
              have c6b0 : decide ((ji4) < (l0.length : Int)) = true := decide_eq_true c6
              clear c6
              by_cases c7 : 0 ≤ x3_1
              · rw [if_pos c7] at H
                have c7b0 : decide (0 ≤ x3_1) = true := decide_eq_true c7
                clear c7
                by_cases c8 : ((rd_T59 l0 (ji4)).f0) ≥ ((rd_T59 l0 x3_1).f0)
                · rw [if_pos c8] at H
                  have c8b0 : decide (((rd_T59 l0 x3_1).f0) ≤ ((rd_T59 l0 (ji4)).f0)) = true := decide_eq_true c8
                  clear c8
                  obtain rfl := Option.some.inj H
                  have p266 : 0 ≤ ((ji4) : Int) := of_decide_eq_true (by first | (with_reducible assumption) | assumption)
                  have q266 : (ji4) < (l0.length : Int) := of_decide_eq_true (by first | (with_reducible assumption) | assumption)
                  obtain ⟨ad266, A266_2, c266_2, e266, hx266_0, hx266_1, hx266_2, hl266_2, hi266_2⟩ := at_T59 HR0.out (ji4) p266 q266
                  cases e266
                  have HR266_2 := Aside0.mk hi266_2
                  have HC266_2 := Aside0.mk hl266_2
                  clear hi266_2 hl266_2
                  replace p266 := eq_true p266
                  replace q266 := eq_true q266
                  have p267 : 0 ≤ (x3_1 : Int) := of_decide_eq_true (by first | (with_reducible assumption) | assumption)
                  have q267 : x3_1 < (l0.length : Int) := of_decide_eq_true (by first | (with_reducible assumption) | assumption)
                  obtain ⟨ad267, A267_2, c267_2, e267, hx267_0, hx267_1, hx267_2, hl267_2, hi267_2⟩ := at_T59 HR0.out x3_1 p267 q267
                  obtain rfl : ad266 = ad267 := (by injection e267)
                  have HR267_2 := Aside0.mk hi267_2
                  have HC267_2 := Aside0.mk hl267_2
                  clear hi267_2 hl267_2
                  replace p267 := eq_true p267
                  replace q267 := eq_true q267
                  go_wp2
                  repeat (go_quiet (fail); try go_wp2)
                  go_ret
                  exact ⟨by first | rfl | (simp; done) | (simp only [← hji4] <;> (first | rfl | simp)) | (simp [*]; done), by repeat (first | exact Drawn0.refl _ | apply Drawn0.step)⟩
                · rw [if_neg c8] at H
                  have c8b0 : decide (((rd_T59 l0 x3_1).f0) ≤ ((rd_T59 l0 (ji4)).f0)) = false := decide_eq_false c8
                  clear c8
                  have H' := Aside0.mk H
                  clear H
                  have p266 : 0 ≤ ((ji4) : Int) := of_decide_eq_true (by first | (with_reducible assumption) | assumption)
                  have q266 : (ji4) < (l0.length : Int) := of_decide_eq_true (by first | (with_reducible assumption) | assumption)
                  obtain ⟨ad266, A266_2, c266_2, e266, hx266_0, hx266_1, hx266_2, hl266_2, hi266_2⟩ := at_T59 HR0.out (ji4) p266 q266
                  cases e266
                  have HR266_2 := Aside0.mk hi266_2
                  have HC266_2 := Aside0.mk hl266_2
                  clear hi266_2 hl266_2
                  replace p266 := eq_true p266
                  replace q266 := eq_true q266
                  have p267 : 0 ≤ (x3_1 : Int) := of_decide_eq_true (by first | (with_reducible assumption) | assumption)
                  have q267 : x3_1 < (l0.length : Int) := of_decide_eq_true (by first | (with_reducible assumption) | assumption)
                  obtain ⟨ad267, A267_2, c267_2, e267, hx267_0, hx267_1, hx267_2, hl267_2, hi267_2⟩ := at_T59 HR0.out x3_1 p267 q267
                  obtain rfl : ad266 = ad267 := (by injection e267)
                  have HR267_2 := Aside0.mk hi267_2
                  have HC267_2 := Aside0.mk hl267_2
                  clear hi267_2 hl267_2
                  replace p267 := eq_true p267
                  replace q267 := eq_true q267
                  go_wp2
                  repeat (go_quiet (fail); try go_wp2)
                  go_roundg k1
                  case measure => have := HK1.out; omega
                  case rel => exact ⟨(wrap64 (x3_1 + 1)), (by first | rfl | (simp; done) | (simp [*]; done)), H', ⟨by have := HK1.out; omega⟩, by repeat (first | exact Drawn0.refl _ | apply Drawn0.step)⟩
              · rw [if_neg c7] at H
                exact absurd H (by simp)
            · rw [if_neg c6] at H
              exact absurd H (by simp)
          · rw [if_neg c5] at H
            exact absurd H (by simp)
        · rw [if_neg c3] at H
          have c3b0 : decide (x3_1 < (l0.length : Int)) = false := decide_eq_false c3
          clear c3
          replace H := Option.bind_eq_some_iff.mp H
          obtain ⟨t268, A90, H⟩ := H
          replace H : (if t268 > 2048 then (some 31) else (cohortref03_Check.l1 k1 l0 0)) = some r := H
          have A9 := Aside0.mk A90
          clear A90
          by_cases c10 : t268 > 2048
          · rw [if_pos c10] at H
            have c10b0 : decide (2048 < t268) = true := decide_eq_true c10
            clear c10
            obtain rfl := Option.some.inj H
            go_wp2_with (first | (go_at_call 20; (with_reducible refine (cohortref03_Edges.calls k1 _ _ l0 t268 _ ?side1 ?side2 A9.out).mono ?_); (case side1 => repeat (first | exact HR0.out | (with_reducible refine Kd.C_alloc ?_ _) | (with_reducible refine Kd.C_drewN ?_ _) | (with_reducible refine Kd.C_drew ?_))); (case side2 => exact HC0.out); rintro e w' ⟨rfl, ⟨nd, rfl⟩⟩; (try first | exact ⟨rfl, _, World.drewN_drewN _ _ _⟩ | exact ⟨rfl, _, Eq.trans (World.drewN_drewN _ _ _) (congrArg (World.drewN _) (Nat.add_assoc _ _ _))⟩)))
            repeat (go_quiet (first | (go_at_call 20; (with_reducible refine (cohortref03_Edges.calls k1 _ _ l0 t268 _ ?side1 ?side2 A9.out).mono ?_); (case side1 => repeat (first | exact HR0.out | (with_reducible refine Kd.C_alloc ?_ _) | (with_reducible refine Kd.C_drewN ?_ _) | (with_reducible refine Kd.C_drew ?_))); (case side2 => exact HC0.out); rintro e w' ⟨rfl, ⟨nd, rfl⟩⟩; (try first | exact ⟨rfl, _, World.drewN_drewN _ _ _⟩ | exact ⟨rfl, _, Eq.trans (World.drewN_drewN _ _ _) (congrArg (World.drewN _) (Nat.add_assoc _ _ _))⟩))); try go_wp2_with (first | (go_at_call 20; (with_reducible refine (cohortref03_Edges.calls k1 _ _ l0 t268 _ ?side1 ?side2 A9.out).mono ?_); (case side1 => repeat (first | exact HR0.out | (with_reducible refine Kd.C_alloc ?_ _) | (with_reducible refine Kd.C_drewN ?_ _) | (with_reducible refine Kd.C_drew ?_))); (case side2 => exact HC0.out); rintro e w' ⟨rfl, ⟨nd, rfl⟩⟩; (try first | exact ⟨rfl, _, World.drewN_drewN _ _ _⟩ | exact ⟨rfl, _, Eq.trans (World.drewN_drewN _ _ _) (congrArg (World.drewN _) (Nat.add_assoc _ _ _))⟩))))
            go_ret
            exact ⟨by first | rfl | (simp; done) | (simp [*]; done), by repeat (first | exact Drawn0.refl _ | apply Drawn0.step)⟩
          · rw [if_neg c10] at H
            have c10b0 : decide (2048 < t268) = false := decide_eq_false c10
            clear c10
            have H' := Aside0.mk H
            clear H
            go_wp2_with (first | (go_at_call 20; (with_reducible refine (cohortref03_Edges.calls k1 _ _ l0 t268 _ ?side1 ?side2 A9.out).mono ?_); (case side1 => repeat (first | exact HR0.out | (with_reducible refine Kd.C_alloc ?_ _) | (with_reducible refine Kd.C_drewN ?_ _) | (with_reducible refine Kd.C_drew ?_))); (case side2 => exact HC0.out); rintro e w' ⟨rfl, ⟨nd, rfl⟩⟩; (try first | exact ⟨rfl, _, World.drewN_drewN _ _ _⟩ | exact ⟨rfl, _, Eq.trans (World.drewN_drewN _ _ _) (congrArg (World.drewN _) (Nat.add_assoc _ _ _))⟩)))
            repeat (go_quiet (first | (go_at_call 20; (with_reducible refine (cohortref03_Edges.calls k1 _ _ l0 t268 _ ?side1 ?side2 A9.out).mono ?_); (case side1 => repeat (first | exact HR0.out | (with_reducible refine Kd.C_alloc ?_ _) | (with_reducible refine Kd.C_drewN ?_ _) | (with_reducible refine Kd.C_drew ?_))); (case side2 => exact HC0.out); rintro e w' ⟨rfl, ⟨nd, rfl⟩⟩; (try first | exact ⟨rfl, _, World.drewN_drewN _ _ _⟩ | exact ⟨rfl, _, Eq.trans (World.drewN_drewN _ _ _) (congrArg (World.drewN _) (Nat.add_assoc _ _ _))⟩))); try go_wp2_with (first | (go_at_call 20; (with_reducible refine (cohortref03_Edges.calls k1 _ _ l0 t268 _ ?side1 ?side2 A9.out).mono ?_); (case side1 => repeat (first | exact HR0.out | (with_reducible refine Kd.C_alloc ?_ _) | (with_reducible refine Kd.C_drewN ?_ _) | (with_reducible refine Kd.C_drew ?_))); (case side2 => exact HC0.out); rintro e w' ⟨rfl, ⟨nd, rfl⟩⟩; (try first | exact ⟨rfl, _, World.drewN_drewN _ _ _⟩ | exact ⟨rfl, _, Eq.trans (World.drewN_drewN _ _ _) (congrArg (World.drewN _) (Nat.add_assoc _ _ _))⟩))))
            go_loopg [4] k1 (fun kq v4 w' => ∃ (x4_2 : Int), v4 = .int .i64 x4_2 ∧ Aside0 (cohortref03_Check.l1 kq l0 x4_2 = some r) ∧ Aside0 (kq ≤ k1) ∧ Drawn0 w w')
            case atStart => exact ⟨(0), (by first | rfl | (simp; done) | (simp [*]; done)), H', ⟨Nat.le_refl _⟩, by repeat (first | exact Drawn0.refl _ | apply Drawn0.step)⟩
            case round =>
              clear H'
              try clear c1
              try clear c2
              try clear c2b0
              try clear c2b1
              try clear p2
              try clear q2
              try clear hx2
              try clear c3
              try clear c3b0
              try clear c5
              try clear c5b0
              try clear c6
              try clear c6b0
              try clear p6
              try clear c7
              try clear c7b0
              try clear c8
              try clear c8b0
              try clear c10
              try clear c10b0
              try clear hx266_0
              try clear hx266_1
              try clear hx266_2
              try clear hx267_0
              try clear hx267_1
              try clear hx267_2
              try clear p2
              try clear p266
              try clear p267
              try clear q266
              try clear q267
              obtain ⟨x4_2, rfl, HA, HK2, ⟨m2, rfl⟩⟩ := hrel
              cases gk with
              | zero => exact absurd HA.out (by simp [cohortref03_Check.l1])
              | succ k2 =>
                have H := HA.out
                clear HA
                simp only [cohortref03_Check.l1] at H
                by_cases c11 : x4_2 < (l0.length : Int)
                · rw [if_pos c11] at H
                  have c11b0 : decide (x4_2 < (l0.length : Int)) = true := decide_eq_true c11
                  clear c11
                  by_cases c12 : 0 ≤ x4_2
                  · rw [if_pos c12] at H
                    have c12b0 : decide (0 ≤ x4_2) = true := decide_eq_true c12
                    clear c12
                    have H' := Aside0.mk H
                    clear H
                    have p269 : 0 ≤ (x4_2 : Int) := of_decide_eq_true (by first | (with_reducible assumption) | assumption)
                    have q269 : x4_2 < (l0.length : Int) := of_decide_eq_true (by first | (with_reducible assumption) | assumption)
                    obtain ⟨ad269, A269_2, c269_2, e269, hx269_0, hx269_1, hx269_2, hl269_2, hi269_2⟩ := at_T59 HR0.out x4_2 p269 q269
                    cases e269
                    have HR269_2 := Aside0.mk hi269_2
                    have HC269_2 := Aside0.mk hl269_2
                    clear hi269_2 hl269_2
                    replace p269 := eq_true p269
                    replace q269 := eq_true q269
                    go_wp2
                    repeat (go_quiet (fail); try go_wp2)
                    go_loopg [6] k2 (fun kq v6 w' => ∃ (x6_3 : Int), v6 = .int .i64 x6_3 ∧ Aside0 (cohortref03_Check.l2 kq l0 x4_2 ((rd_T59 l0 x4_2).f2) x6_3 = some r) ∧ Aside0 (kq ≤ k2) ∧ Drawn0 w w')
                    case atStart => exact ⟨(0), (by first | rfl | (simp; done) | (simp [*]; done)), H', ⟨Nat.le_refl _⟩, by repeat (first | exact Drawn0.refl _ | apply Drawn0.step)⟩
                    case round =>
                      clear H'
                      try clear c1
                      try clear c2
                      try clear c2b0
                      try clear c2b1
                      try clear p2
                      try clear q2
                      try clear hx2
                      try clear c3
                      try clear c3b0
                      try clear c5
                      try clear c5b0
                      try clear c6
                      try clear c6b0
                      try clear p6
                      try clear c7
                      try clear c7b0
                      try clear c8
                      try clear c8b0
                      try clear c10
                      try clear c10b0
                      try clear c11
                      try clear c11b0
                      try clear c12
                      try clear c12b0
                      try clear hx266_0
                      try clear hx266_1
                      try clear hx266_2
                      try clear hx267_0
                      try clear hx267_1
                      try clear hx267_2
                      try clear hx269_0
                      try clear hx269_1
                      try clear hx269_2
                      try clear p2
                      try clear p266
                      try clear p267
                      try clear p269
                      try clear p6
                      try clear q2
                      try clear q266
                      try clear q267
                      try clear q269
                      obtain ⟨x6_3, rfl, HA, HK3, ⟨m3, rfl⟩⟩ := hrel
                      cases gk with
                      | zero => exact absurd HA.out (by simp [cohortref03_Check.l2])
                      | succ k3 =>
                        have H := HA.out
                        clear HA
                        simp only [cohortref03_Check.l2] at H
                        by_cases c13 : x6_3 < (((rd_T59 l0 x4_2).f2).length : Int)
                        · rw [if_pos c13] at H
                          have c13b0 : decide (x6_3 < (((rd_T59 l0 x4_2).f2).length : Int)) = true := decide_eq_true c13
                          clear c13
                          by_cases c14 : 0 ≤ x6_3
                          · rw [if_pos c14] at H
                            have c14b0 : decide (0 ≤ x6_3) = true := decide_eq_true c14
                            clear c14
                            replace H := Option.bind_eq_some_iff.mp H
                            obtain ⟨⟨t271, t272⟩, A150, H⟩ := H
                            replace H : (if t272 = true then (if x6_3 > 0 then (if 0 ≤ (wrap64 (x6_3 - 1)) then (if (wrap64 (x6_3 - 1)) < (((rd_T59 l0 x4_2).f2).length : Int) then (if ((rd_T140 ((rd_T59 l0 x4_2).f2) (wrap64 (x6_3 - 1))).f0) ≥ ((rd_T140 ((rd_T59 l0 x4_2).f2) x6_3).f0) then (some 31) else (cohortref03_Check.l2 k3 l0 x4_2 ((rd_T59 l0 x4_2).f2) (wrap64 (x6_3 + 1)))) else (none)) else (none)) else (cohortref03_Check.l2 k3 l0 x4_2 ((rd_T59 l0 x4_2).f2) (wrap64 (x6_3 + 1)))) else (some 31)) = some r := H
                            have A15 := Aside0.mk A150
                            clear A150
                            by_cases c16 : t272 = true
                            · subst c16
                              have H1 : (if x6_3 > 0 then (if 0 ≤ (wrap64 (x6_3 - 1)) then (if (wrap64 (x6_3 - 1)) < (((rd_T59 l0 x4_2).f2).length : Int) then (if ((rd_T140 ((rd_T59 l0 x4_2).f2) (wrap64 (x6_3 - 1))).f0) ≥ ((rd_T140 ((rd_T59 l0 x4_2).f2) x6_3).f0) then (some 31) else (cohortref03_Check.l2 k3 l0 x4_2 ((rd_T59 l0 x4_2).f2) (wrap64 (x6_3 + 1)))) else (none)) else (none)) else (cohortref03_Check.l2 k3 l0 x4_2 ((rd_T59 l0 x4_2).f2) (wrap64 (x6_3 + 1)))) = some r := by rw [if_pos rfl] at H; exact H
                              clear H
                              have H := H1
                              clear H1
                              by_cases c17 : x6_3 > 0
                              · rw [if_pos c17] at H
                                have c17b0 : decide (0 < x6_3) = true := decide_eq_true c17
                                clear c17
                                obtain ⟨ji18, hji18⟩ : ∃ j_ : Int, (wrap64 (x6_3 - 1)) = j_ := ⟨_, rfl⟩
                                replace H : (if 0 ≤ (ji18) then (if (ji18) < (((rd_T59 l0 x4_2).f2).length : Int) then (if ((rd_T140 ((rd_T59 l0 x4_2).f2) (ji18)).f0) ≥ ((rd_T140 ((rd_T59 l0 x4_2).f2) x6_3).f0) then (some 31) else (cohortref03_Check.l2 k3 l0 x4_2 ((rd_T59 l0 x4_2).f2) (wrap64 (x6_3 + 1)))) else (none)) else (none)) = some r := by first | (rw [hji18] at H; exact H) | (simp only [hji18] at H ⊢; exact H)
                                (try rw [hji18] at A15)
                                have hji18w : (IntKind.i64.wrap (x6_3 - 1)) = ji18 := (i64_w _).trans hji18
                                by_cases c19 : 0 ≤ (ji18)
                                · rw [if_pos c19] at H
                                  have c19b0 : decide (0 ≤ (ji18)) = true := decide_eq_true c19
                                  clear c19
                                  by_cases c20 : (ji18) < (((rd_T59 l0 x4_2).f2).length : Int)
                                  · rw [if_pos c20] at H
                                    have c20b0 : decide ((ji18) < (((rd_T59 l0 x4_2).f2).length : Int)) = true := decide_eq_true c20
                                    clear c20
                                    by_cases c21 : ((rd_T140 ((rd_T59 l0 x4_2).f2) (ji18)).f0) ≥ ((rd_T140 ((rd_T59 l0 x4_2).f2) x6_3).f0)
                                    · rw [if_pos c21] at H
                                      have c21b0 : decide (((rd_T140 ((rd_T59 l0 x4_2).f2) x6_3).f0) ≤ ((rd_T140 ((rd_T59 l0 x4_2).f2) (ji18)).f0)) = true := decide_eq_true c21
                                      clear c21
                                      obtain rfl := Option.some.inj H
                                      have p270 : 0 ≤ (x6_3 : Int) := of_decide_eq_true (by first | (with_reducible assumption) | assumption)
                                      have q270 : x6_3 < (((rd_T59 l0 x4_2).f2).length : Int) := of_decide_eq_true (by first | (with_reducible assumption) | assumption)
                                      obtain ⟨ad270, e270, hx270_0, hx270_1⟩ := at_T140 HR269_2.out x6_3 p270 q270
                                      cases e270
                                      replace p270 := eq_true p270
                                      replace q270 := eq_true q270
                                      go_wp2_with (first | (go_at_call 40; (with_reducible refine (cohortref03_Find.calls k3 _ _ l0 ((rd_T140 ((rd_T59 l0 x4_2).f2) x6_3).f0) t271 true _ ?side1 ?side2 A15.out).mono ?_); (case side1 => repeat (first | exact HR0.out | (with_reducible refine Kd.C_alloc ?_ _) | (with_reducible refine Kd.C_drewN ?_ _) | (with_reducible refine Kd.C_drew ?_))); (case side2 => exact HC0.out); rintro e w' ⟨rfl, ⟨nd, rfl⟩⟩; (try first | exact ⟨rfl, _, World.drewN_drewN _ _ _⟩ | exact ⟨rfl, _, Eq.trans (World.drewN_drewN _ _ _) (congrArg (World.drewN _) (Nat.add_assoc _ _ _))⟩); have p273 : 0 ≤ ((ji18) : Int) := of_decide_eq_true (by first | (with_reducible assumption) | assumption); have q273 : (ji18) < (((rd_T59 l0 x4_2).f2).length : Int) := of_decide_eq_true (by first | (with_reducible assumption) | assumption); obtain ⟨ad273, e273, hx273_0, hx273_1⟩ := at_T140 HR269_2.out (ji18) p273 q273; obtain rfl : ad270 = ad273 := (by injection e273); replace p273 := eq_true p273; replace q273 := eq_true q273; have p274 : 0 ≤ (x6_3 : Int) := of_decide_eq_true (by first | (with_reducible assumption) | assumption); have q274 : x6_3 < (((rd_T59 l0 x4_2).f2).length : Int) := of_decide_eq_true (by first | (with_reducible assumption) | assumption); obtain ⟨ad274, e274, hx274_0, hx274_1⟩ := at_T140 HR269_2.out x6_3 p274 q274; obtain rfl : ad270 = ad274 := (by injection e274); replace p274 := eq_true p274; replace q274 := eq_true q274))
                                      repeat (go_quiet (first | (go_at_call 40; (with_reducible refine (cohortref03_Find.calls k3 _ _ l0 ((rd_T140 ((rd_T59 l0 x4_2).f2) x6_3).f0) t271 true _ ?side1 ?side2 A15.out).mono ?_); (case side1 => repeat (first | exact HR0.out | (with_reducible refine Kd.C_alloc ?_ _) | (with_reducible refine Kd.C_drewN ?_ _) | (with_reducible refine Kd.C_drew ?_))); (case side2 => exact HC0.out); rintro e w' ⟨rfl, ⟨nd, rfl⟩⟩; (try first | exact ⟨rfl, _, World.drewN_drewN _ _ _⟩ | exact ⟨rfl, _, Eq.trans (World.drewN_drewN _ _ _) (congrArg (World.drewN _) (Nat.add_assoc _ _ _))⟩); have p273 : 0 ≤ ((ji18) : Int) := of_decide_eq_true (by first | (with_reducible assumption) | assumption); have q273 : (ji18) < (((rd_T59 l0 x4_2).f2).length : Int) := of_decide_eq_true (by first | (with_reducible assumption) | assumption); obtain ⟨ad273, e273, hx273_0, hx273_1⟩ := at_T140 HR269_2.out (ji18) p273 q273; obtain rfl : ad270 = ad273 := (by injection e273); replace p273 := eq_true p273; replace q273 := eq_true q273; have p274 : 0 ≤ (x6_3 : Int) := of_decide_eq_true (by first | (with_reducible assumption) | assumption); have q274 : x6_3 < (((rd_T59 l0 x4_2).f2).length : Int) := of_decide_eq_true (by first | (with_reducible assumption) | assumption); obtain ⟨ad274, e274, hx274_0, hx274_1⟩ := at_T140 HR269_2.out x6_3 p274 q274; obtain rfl : ad270 = ad274 := (by injection e274); replace p274 := eq_true p274; replace q274 := eq_true q274)); try go_wp2_with (first | (go_at_call 40; (with_reducible refine (cohortref03_Find.calls k3 _ _ l0 ((rd_T140 ((rd_T59 l0 x4_2).f2) x6_3).f0) t271 true _ ?side1 ?side2 A15.out).mono ?_); (case side1 => repeat (first | exact HR0.out | (with_reducible refine Kd.C_alloc ?_ _) | (with_reducible refine Kd.C_drewN ?_ _) | (with_reducible refine Kd.C_drew ?_))); (case side2 => exact HC0.out); rintro e w' ⟨rfl, ⟨nd, rfl⟩⟩; (try first | exact ⟨rfl, _, World.drewN_drewN _ _ _⟩ | exact ⟨rfl, _, Eq.trans (World.drewN_drewN _ _ _) (congrArg (World.drewN _) (Nat.add_assoc _ _ _))⟩); have p273 : 0 ≤ ((ji18) : Int) := of_decide_eq_true (by first | (with_reducible assumption) | assumption); have q273 : (ji18) < (((rd_T59 l0 x4_2).f2).length : Int) := of_decide_eq_true (by first | (with_reducible assumption) | assumption); obtain ⟨ad273, e273, hx273_0, hx273_1⟩ := at_T140 HR269_2.out (ji18) p273 q273; obtain rfl : ad270 = ad273 := (by injection e273); replace p273 := eq_true p273; replace q273 := eq_true q273; have p274 : 0 ≤ (x6_3 : Int) := of_decide_eq_true (by first | (with_reducible assumption) | assumption); have q274 : x6_3 < (((rd_T59 l0 x4_2).f2).length : Int) := of_decide_eq_true (by first | (with_reducible assumption) | assumption); obtain ⟨ad274, e274, hx274_0, hx274_1⟩ := at_T140 HR269_2.out x6_3 p274 q274; obtain rfl : ad270 = ad274 := (by injection e274); replace p274 := eq_true p274; replace q274 := eq_true q274)))
                                      go_ret
                                      exact ⟨by first | rfl | (simp; done) | (simp only [← hji18] <;> (first | rfl | simp)) | (simp [*]; done), by repeat (first | exact Drawn0.refl _ | apply Drawn0.step)⟩
                                    · rw [if_neg c21] at H
                                      have c21b0 : decide (((rd_T140 ((rd_T59 l0 x4_2).f2) x6_3).f0) ≤ ((rd_T140 ((rd_T59 l0 x4_2).f2) (ji18)).f0)) = false := decide_eq_false c21
                                      clear c21
                                      have H' := Aside0.mk H
                                      clear H
                                      have p270 : 0 ≤ (x6_3 : Int) := of_decide_eq_true (by first | (with_reducible assumption) | assumption)
                                      have q270 : x6_3 < (((rd_T59 l0 x4_2).f2).length : Int) := of_decide_eq_true (by first | (with_reducible assumption) | assumption)
                                      obtain ⟨ad270, e270, hx270_0, hx270_1⟩ := at_T140 HR269_2.out x6_3 p270 q270
                                      cases e270
                                      replace p270 := eq_true p270
                                      replace q270 := eq_true q270
                                      go_wp2_with (first | (go_at_call 40; (with_reducible refine (cohortref03_Find.calls k3 _ _ l0 ((rd_T140 ((rd_T59 l0 x4_2).f2) x6_3).f0) t271 true _ ?side1 ?side2 A15.out).mono ?_); (case side1 => repeat (first | exact HR0.out | (with_reducible refine Kd.C_alloc ?_ _) | (with_reducible refine Kd.C_drewN ?_ _) | (with_reducible refine Kd.C_drew ?_))); (case side2 => exact HC0.out); rintro e w' ⟨rfl, ⟨nd, rfl⟩⟩; (try first | exact ⟨rfl, _, World.drewN_drewN _ _ _⟩ | exact ⟨rfl, _, Eq.trans (World.drewN_drewN _ _ _) (congrArg (World.drewN _) (Nat.add_assoc _ _ _))⟩); have p273 : 0 ≤ ((ji18) : Int) := of_decide_eq_true (by first | (with_reducible assumption) | assumption); have q273 : (ji18) < (((rd_T59 l0 x4_2).f2).length : Int) := of_decide_eq_true (by first | (with_reducible assumption) | assumption); obtain ⟨ad273, e273, hx273_0, hx273_1⟩ := at_T140 HR269_2.out (ji18) p273 q273; obtain rfl : ad270 = ad273 := (by injection e273); replace p273 := eq_true p273; replace q273 := eq_true q273; have p274 : 0 ≤ (x6_3 : Int) := of_decide_eq_true (by first | (with_reducible assumption) | assumption); have q274 : x6_3 < (((rd_T59 l0 x4_2).f2).length : Int) := of_decide_eq_true (by first | (with_reducible assumption) | assumption); obtain ⟨ad274, e274, hx274_0, hx274_1⟩ := at_T140 HR269_2.out x6_3 p274 q274; obtain rfl : ad270 = ad274 := (by injection e274); replace p274 := eq_true p274; replace q274 := eq_true q274))
                                      repeat (go_quiet (first | (go_at_call 40; (with_reducible refine (cohortref03_Find.calls k3 _ _ l0 ((rd_T140 ((rd_T59 l0 x4_2).f2) x6_3).f0) t271 true _ ?side1 ?side2 A15.out).mono ?_); (case side1 => repeat (first | exact HR0.out | (with_reducible refine Kd.C_alloc ?_ _) | (with_reducible refine Kd.C_drewN ?_ _) | (with_reducible refine Kd.C_drew ?_))); (case side2 => exact HC0.out); rintro e w' ⟨rfl, ⟨nd, rfl⟩⟩; (try first | exact ⟨rfl, _, World.drewN_drewN _ _ _⟩ | exact ⟨rfl, _, Eq.trans (World.drewN_drewN _ _ _) (congrArg (World.drewN _) (Nat.add_assoc _ _ _))⟩); have p273 : 0 ≤ ((ji18) : Int) := of_decide_eq_true (by first | (with_reducible assumption) | assumption); have q273 : (ji18) < (((rd_T59 l0 x4_2).f2).length : Int) := of_decide_eq_true (by first | (with_reducible assumption) | assumption); obtain ⟨ad273, e273, hx273_0, hx273_1⟩ := at_T140 HR269_2.out (ji18) p273 q273; obtain rfl : ad270 = ad273 := (by injection e273); replace p273 := eq_true p273; replace q273 := eq_true q273; have p274 : 0 ≤ (x6_3 : Int) := of_decide_eq_true (by first | (with_reducible assumption) | assumption); have q274 : x6_3 < (((rd_T59 l0 x4_2).f2).length : Int) := of_decide_eq_true (by first | (with_reducible assumption) | assumption); obtain ⟨ad274, e274, hx274_0, hx274_1⟩ := at_T140 HR269_2.out x6_3 p274 q274; obtain rfl : ad270 = ad274 := (by injection e274); replace p274 := eq_true p274; replace q274 := eq_true q274)); try go_wp2_with (first | (go_at_call 40; (with_reducible refine (cohortref03_Find.calls k3 _ _ l0 ((rd_T140 ((rd_T59 l0 x4_2).f2) x6_3).f0) t271 true _ ?side1 ?side2 A15.out).mono ?_); (case side1 => repeat (first | exact HR0.out | (with_reducible refine Kd.C_alloc ?_ _) | (with_reducible refine Kd.C_drewN ?_ _) | (with_reducible refine Kd.C_drew ?_))); (case side2 => exact HC0.out); rintro e w' ⟨rfl, ⟨nd, rfl⟩⟩; (try first | exact ⟨rfl, _, World.drewN_drewN _ _ _⟩ | exact ⟨rfl, _, Eq.trans (World.drewN_drewN _ _ _) (congrArg (World.drewN _) (Nat.add_assoc _ _ _))⟩); have p273 : 0 ≤ ((ji18) : Int) := of_decide_eq_true (by first | (with_reducible assumption) | assumption); have q273 : (ji18) < (((rd_T59 l0 x4_2).f2).length : Int) := of_decide_eq_true (by first | (with_reducible assumption) | assumption); obtain ⟨ad273, e273, hx273_0, hx273_1⟩ := at_T140 HR269_2.out (ji18) p273 q273; obtain rfl : ad270 = ad273 := (by injection e273); replace p273 := eq_true p273; replace q273 := eq_true q273; have p274 : 0 ≤ (x6_3 : Int) := of_decide_eq_true (by first | (with_reducible assumption) | assumption); have q274 : x6_3 < (((rd_T59 l0 x4_2).f2).length : Int) := of_decide_eq_true (by first | (with_reducible assumption) | assumption); obtain ⟨ad274, e274, hx274_0, hx274_1⟩ := at_T140 HR269_2.out x6_3 p274 q274; obtain rfl : ad270 = ad274 := (by injection e274); replace p274 := eq_true p274; replace q274 := eq_true q274)))
                                      go_roundg k3
                                      case measure => have := HK1.out; have := HK2.out; have := HK3.out; omega
                                      case rel => exact ⟨(wrap64 (x6_3 + 1)), (by first | rfl | (simp; done) | (simp [*]; done)), H', ⟨by have := HK1.out; have := HK2.out; have := HK3.out; omega⟩, by repeat (first | exact Drawn0.refl _ | apply Drawn0.step)⟩
                                  · rw [if_neg c20] at H
                                    exact absurd H (by simp)
                                · rw [if_neg c19] at H
                                  exact absurd H (by simp)
                              · rw [if_neg c17] at H
                                have c17b0 : decide (0 < x6_3) = false := decide_eq_false c17
                                clear c17
                                have H' := Aside0.mk H
                                clear H
                                have p270 : 0 ≤ (x6_3 : Int) := of_decide_eq_true (by first | (with_reducible assumption) | assumption)
                                have q270 : x6_3 < (((rd_T59 l0 x4_2).f2).length : Int) := of_decide_eq_true (by first | (with_reducible assumption) | assumption)
                                obtain ⟨ad270, e270, hx270_0, hx270_1⟩ := at_T140 HR269_2.out x6_3 p270 q270
                                cases e270
                                replace p270 := eq_true p270
                                replace q270 := eq_true q270
                                go_wp2_with (first | (go_at_call 40; (with_reducible refine (cohortref03_Find.calls k3 _ _ l0 ((rd_T140 ((rd_T59 l0 x4_2).f2) x6_3).f0) t271 true _ ?side1 ?side2 A15.out).mono ?_); (case side1 => repeat (first | exact HR0.out | (with_reducible refine Kd.C_alloc ?_ _) | (with_reducible refine Kd.C_drewN ?_ _) | (with_reducible refine Kd.C_drew ?_))); (case side2 => exact HC0.out); rintro e w' ⟨rfl, ⟨nd, rfl⟩⟩; (try first | exact ⟨rfl, _, World.drewN_drewN _ _ _⟩ | exact ⟨rfl, _, Eq.trans (World.drewN_drewN _ _ _) (congrArg (World.drewN _) (Nat.add_assoc _ _ _))⟩)))
                                repeat (go_quiet (first | (go_at_call 40; (with_reducible refine (cohortref03_Find.calls k3 _ _ l0 ((rd_T140 ((rd_T59 l0 x4_2).f2) x6_3).f0) t271 true _ ?side1 ?side2 A15.out).mono ?_); (case side1 => repeat (first | exact HR0.out | (with_reducible refine Kd.C_alloc ?_ _) | (with_reducible refine Kd.C_drewN ?_ _) | (with_reducible refine Kd.C_drew ?_))); (case side2 => exact HC0.out); rintro e w' ⟨rfl, ⟨nd, rfl⟩⟩; (try first | exact ⟨rfl, _, World.drewN_drewN _ _ _⟩ | exact ⟨rfl, _, Eq.trans (World.drewN_drewN _ _ _) (congrArg (World.drewN _) (Nat.add_assoc _ _ _))⟩))); try go_wp2_with (first | (go_at_call 40; (with_reducible refine (cohortref03_Find.calls k3 _ _ l0 ((rd_T140 ((rd_T59 l0 x4_2).f2) x6_3).f0) t271 true _ ?side1 ?side2 A15.out).mono ?_); (case side1 => repeat (first | exact HR0.out | (with_reducible refine Kd.C_alloc ?_ _) | (with_reducible refine Kd.C_drewN ?_ _) | (with_reducible refine Kd.C_drew ?_))); (case side2 => exact HC0.out); rintro e w' ⟨rfl, ⟨nd, rfl⟩⟩; (try first | exact ⟨rfl, _, World.drewN_drewN _ _ _⟩ | exact ⟨rfl, _, Eq.trans (World.drewN_drewN _ _ _) (congrArg (World.drewN _) (Nat.add_assoc _ _ _))⟩))))
                                go_roundg k3
                                case measure => have := HK1.out; have := HK2.out; have := HK3.out; omega
                                case rel => exact ⟨(wrap64 (x6_3 + 1)), (by first | rfl | (simp; done) | (simp [*]; done)), H', ⟨by have := HK1.out; have := HK2.out; have := HK3.out; omega⟩, by repeat (first | exact Drawn0.refl _ | apply Drawn0.step)⟩
                            · replace c16 := Bool.eq_false_iff.mpr c16
                              subst c16
                              have H1 : (some 31) = some r := by rw [if_neg (show ¬ (false = true) by decide)] at H; exact H
                              clear H
                              have H := H1
                              clear H1
                              obtain rfl := Option.some.inj H
                              have p270 : 0 ≤ (x6_3 : Int) := of_decide_eq_true (by first | (with_reducible assumption) | assumption)
                              have q270 : x6_3 < (((rd_T59 l0 x4_2).f2).length : Int) := of_decide_eq_true (by first | (with_reducible assumption) | assumption)
                              obtain ⟨ad270, e270, hx270_0, hx270_1⟩ := at_T140 HR269_2.out x6_3 p270 q270
                              cases e270
                              replace p270 := eq_true p270
                              replace q270 := eq_true q270
                              go_wp2_with (first | (go_at_call 40; (with_reducible refine (cohortref03_Find.calls k3 _ _ l0 ((rd_T140 ((rd_T59 l0 x4_2).f2) x6_3).f0) t271 false _ ?side1 ?side2 A15.out).mono ?_); (case side1 => repeat (first | exact HR0.out | (with_reducible refine Kd.C_alloc ?_ _) | (with_reducible refine Kd.C_drewN ?_ _) | (with_reducible refine Kd.C_drew ?_))); (case side2 => exact HC0.out); rintro e w' ⟨rfl, ⟨nd, rfl⟩⟩; (try first | exact ⟨rfl, _, World.drewN_drewN _ _ _⟩ | exact ⟨rfl, _, Eq.trans (World.drewN_drewN _ _ _) (congrArg (World.drewN _) (Nat.add_assoc _ _ _))⟩)))
                              repeat (go_quiet (first | (go_at_call 40; (with_reducible refine (cohortref03_Find.calls k3 _ _ l0 ((rd_T140 ((rd_T59 l0 x4_2).f2) x6_3).f0) t271 false _ ?side1 ?side2 A15.out).mono ?_); (case side1 => repeat (first | exact HR0.out | (with_reducible refine Kd.C_alloc ?_ _) | (with_reducible refine Kd.C_drewN ?_ _) | (with_reducible refine Kd.C_drew ?_))); (case side2 => exact HC0.out); rintro e w' ⟨rfl, ⟨nd, rfl⟩⟩; (try first | exact ⟨rfl, _, World.drewN_drewN _ _ _⟩ | exact ⟨rfl, _, Eq.trans (World.drewN_drewN _ _ _) (congrArg (World.drewN _) (Nat.add_assoc _ _ _))⟩))); try go_wp2_with (first | (go_at_call 40; (with_reducible refine (cohortref03_Find.calls k3 _ _ l0 ((rd_T140 ((rd_T59 l0 x4_2).f2) x6_3).f0) t271 false _ ?side1 ?side2 A15.out).mono ?_); (case side1 => repeat (first | exact HR0.out | (with_reducible refine Kd.C_alloc ?_ _) | (with_reducible refine Kd.C_drewN ?_ _) | (with_reducible refine Kd.C_drew ?_))); (case side2 => exact HC0.out); rintro e w' ⟨rfl, ⟨nd, rfl⟩⟩; (try first | exact ⟨rfl, _, World.drewN_drewN _ _ _⟩ | exact ⟨rfl, _, Eq.trans (World.drewN_drewN _ _ _) (congrArg (World.drewN _) (Nat.add_assoc _ _ _))⟩))))
                              go_ret
                              exact ⟨by first | rfl | (simp; done) | (simp [*]; done), by repeat (first | exact Drawn0.refl _ | apply Drawn0.step)⟩
                          · rw [if_neg c14] at H
                            exact absurd H (by simp)
                        · rw [if_neg c13] at H
                          have c13b0 : decide (x6_3 < (((rd_T59 l0 x4_2).f2).length : Int)) = false := decide_eq_false c13
                          clear c13
                          have H' := Aside0.mk H
                          clear H
                          go_wp2
                          repeat (go_quiet (fail); try go_wp2)
                          go_roundg k3
                          case measure => have := HK1.out; have := HK2.out; have := HK3.out; omega
                          case rel => exact ⟨(wrap64 (x4_2 + 1)), (by first | rfl | (simp; done) | (simp [*]; done)), H', ⟨by have := HK1.out; have := HK2.out; have := HK3.out; omega⟩, by repeat (first | exact Drawn0.refl _ | apply Drawn0.step)⟩
                  · rw [if_neg c12] at H
                    exact absurd H (by simp)
                · rw [if_neg c11] at H
                  have c11b0 : decide (x4_2 < (l0.length : Int)) = false := decide_eq_false c11
                  clear c11
                  obtain rfl := Option.some.inj H
                  go_wp2
                  repeat (go_quiet (fail); try go_wp2)
                  go_ret
                  exact ⟨by first | rfl | (simp; done) | (simp [*]; done), by repeat (first | exact Drawn0.refl _ | apply Drawn0.step)⟩

/-! ### cohortref01_Reader_Number: function 149 -/
mutual
def cohortref01_Reader_Number.l0 : Nat → Int → Int → Int → ByteArray → Int → Int → Option (ByteArray × Int × Int × Int)
  | 0, _, _, _, _, _, _ => none
  | k + 1, x4, x5, x6, x276000, x276001, x276002 => if x6 < 10 then (if (wrap64 (x276001 + x6)) ≥ (x276000.size : Int) then (some (x276000, x276001, 4, 0)) else (if 0 ≤ (wrap64 (x276001 + x6)) then (if (wrap64 (x276001 + x6)) < (x276000.size : Int) then (if x6 = 9 then (if (IntKind.u64.wrap (bt x276000 (wrap64 (x276001 + x6)))) > 1 then (cohortref01_Reader_Number.j1 k x4 x5 x6 (IntKind.u64.wrap (bt x276000 (wrap64 (x276001 + x6)))) true x276000 x276001 x276002) else (if x6 > 0 then (cohortref01_Reader_Number.j1 k x4 x5 x6 (IntKind.u64.wrap (bt x276000 (wrap64 (x276001 + x6)))) ((IntKind.u64.wrap (bt x276000 (wrap64 (x276001 + x6)))) == 0) x276000 x276001 x276002) else (cohortref01_Reader_Number.j1 k x4 x5 x6 (IntKind.u64.wrap (bt x276000 (wrap64 (x276001 + x6)))) false x276000 x276001 x276002))) else (if x6 > 0 then (cohortref01_Reader_Number.j1 k x4 x5 x6 (IntKind.u64.wrap (bt x276000 (wrap64 (x276001 + x6)))) ((IntKind.u64.wrap (bt x276000 (wrap64 (x276001 + x6)))) == 0) x276000 x276001 x276002) else (cohortref01_Reader_Number.j1 k x4 x5 x6 (IntKind.u64.wrap (bt x276000 (wrap64 (x276001 + x6)))) false x276000 x276001 x276002))) else (none)) else (none))) else (some (x276000, x276001, 6, 0))
def cohortref01_Reader_Number.j1 : Nat → Int → Int → Int → Int → Bool → ByteArray → Int → Int → Option (ByteArray × Int × Int × Int)
  | 0, _, _, _, _, _, _, _, _ => none
  | k + 1, x4, x5, x6, x7, x47, x276000, x276001, x276002 => if x47 = true then (some (x276000, x276001, 6, 0)) else (if x7 < 128 then (some (x276000, wrap64 (x276001 + (wrap64 (x6 + 1))), x276002, IntKind.u64.wrap (x4 + (IntKind.u64.wrap ((Int.tmod x7 128) * x5))))) else (cohortref01_Reader_Number.l0 k (IntKind.u64.wrap (x4 + (IntKind.u64.wrap ((Int.tmod x7 128) * x5)))) (IntKind.u64.wrap (x5 * 128)) (wrap64 (x6 + 1)) x276000 x276001 x276002))
end
def cohortref01_Reader_Number.f (k : Nat) (a0_0 : ByteArray) (a0_1 : Int) (a0_2 : Int) : Option (ByteArray × Int × Int × Int) := if a0_2 = 0 then (cohortref01_Reader_Number.l0 k 0 1 0 a0_0 a0_1 a0_2) else (some (a0_0, a0_1, a0_2, 0))
theorem cohortref01_Reader_Number.mono_l : ∀ k, (∀ y0 y1 y2 y3 y4 y5, LeO (cohortref01_Reader_Number.l0 k y0 y1 y2 y3 y4 y5) (cohortref01_Reader_Number.l0 (k + 1) y0 y1 y2 y3 y4 y5)) ∧ (∀ y0 y1 y2 y3 y4 y5 y6 y7, LeO (cohortref01_Reader_Number.j1 k y0 y1 y2 y3 y4 y5 y6 y7) (cohortref01_Reader_Number.j1 (k + 1) y0 y1 y2 y3 y4 y5 y6 y7))
  | 0 => ⟨fun _ _ _ _ _ _ r h => by simp [cohortref01_Reader_Number.l0] at h, fun _ _ _ _ _ _ _ _ r h => by simp [cohortref01_Reader_Number.j1] at h⟩
  | k + 1 => by
    obtain ⟨ih0, ih1⟩ := cohortref01_Reader_Number.mono_l k
    refine ⟨?_, ?_⟩
    · intro y0 y1 y2 y3 y4 y5
      unfold cohortref01_Reader_Number.l0
      repeat' first
      | (with_reducible exact ih0 _ _ _ _ _ _)
      | (with_reducible exact ih1 _ _ _ _ _ _ _ _)
      | (with_reducible exact LeO.refl _)
      | (with_reducible exact LeO.none _)
      | (with_reducible refine LeO.ite ?_ ?_)
      | (with_reducible refine LeO.bind ?_ (fun _ => ?_))
      | exact ih0 _ _ _ _ _ _
      | exact ih1 _ _ _ _ _ _ _ _
      | exact LeO.none _
      | refine LeO.ite ?_ ?_
      | refine LeO.bind ?_ (fun _ => ?_)
    · intro y0 y1 y2 y3 y4 y5 y6 y7
      unfold cohortref01_Reader_Number.j1
      repeat' first
      | (with_reducible exact ih0 _ _ _ _ _ _)
      | (with_reducible exact ih1 _ _ _ _ _ _ _ _)
      | (with_reducible exact LeO.refl _)
      | (with_reducible exact LeO.none _)
      | (with_reducible refine LeO.ite ?_ ?_)
      | (with_reducible refine LeO.bind ?_ (fun _ => ?_))
      | exact ih0 _ _ _ _ _ _
      | exact ih1 _ _ _ _ _ _ _ _
      | exact LeO.none _
      | refine LeO.ite ?_ ?_
      | refine LeO.bind ?_ (fun _ => ?_)
theorem cohortref01_Reader_Number.mono : ∀ a0 a1 a2 k, LeO (cohortref01_Reader_Number.f k a0 a1 a2) (cohortref01_Reader_Number.f (k + 1) a0 a1 a2) := by
  intro a0 a1 a2 k
  obtain ⟨ih0, ih1⟩ := cohortref01_Reader_Number.mono_l k
  unfold cohortref01_Reader_Number.f
  repeat' first
      | (with_reducible exact ih0 _ _ _ _ _ _)
      | (with_reducible exact ih1 _ _ _ _ _ _ _ _)
      | (with_reducible exact LeO.refl _)
      | (with_reducible exact LeO.none _)
      | (with_reducible refine LeO.ite ?_ ?_)
      | (with_reducible refine LeO.bind ?_ (fun _ => ?_))
      | exact ih0 _ _ _ _ _ _
      | exact ih1 _ _ _ _ _ _ _ _
      | exact LeO.none _
      | refine LeO.ite ?_ ?_
      | refine LeO.bind ?_ (fun _ => ?_)
set_option maxHeartbeats 8000000 in
set_option maxRecDepth 100000 in
theorem cohortref01_Reader_Number.calls (k : Nat) (a0_0 : ByteArray) (a0_1 : Int) (a0_2 : Int) (r1 : ByteArray) (r2 : Int) (r3 : Int) (r4 : Int) (w : World) (h : cohortref01_Reader_Number.f k a0_0 a0_1 a0_2 = some (r1, r2, r3, r4)) :
    Calls Try.prog 149 #[.agg #[.string a0_0, .int .i64 a0_1, .int .i64 a0_2]] w fun e w' => e = .returned (.tuple #[.agg #[.string r1, .int .i64 r2, .int .i64 r3], .int .u64 r4]) ∧ Below w.heap.size w w' := by
  have hu156 := Try.underlying156
  have HB := Aside0.mk (Below.refl w.heap.size w)
  have H : (if a0_2 = 0 then (cohortref01_Reader_Number.l0 k 0 1 0 a0_0 a0_1 a0_2) else (some (a0_0, a0_1, a0_2, 0))) = some (r1, r2, r3, r4) := h
  clear h
  by_cases c2 : a0_2 = 0
  · rw [if_pos c2] at H
    have c2b0 : (a0_2 == 0) = true := beq_iff_eq.mpr c2
    have c2b1 : (a0_2 != 0) = false := bne_eq_false_iff_eq.mpr c2
    clear c2
    have H' := Aside0.mk H
    clear H
    go_enter Try.func149, Try.ntmps149
    go_wp2_with (first | ((with_reducible refine gate_dst (N := 1) rfl ?_); refine box_event ?hg (N := 1) ?hd (cs := #[.string a0_0, .int .i64 a0_1, .int .i64 a0_2]) (t := 156) ?hr ?_; (case hd => rfl); (case hg => rfl); (case hr => first | (go_simp; done) | (go_simp; rfl) | (go_simp; simp [IntKind.wrap, IntKind.bits, IntKind.signed])); intro gb275 hg w3 hbox hb; have n0_ := Aside0.mk (below_step (by repeat (first | (with_reducible first | exact HB.out | apply below_alloc | apply pw_below_drewN | apply below_drew1) | exact HB.out)) hb); have n1_ := Aside0.mk (hbox); have n2_ := Aside0.mk ((by rw [hg]; exact (below_size (by repeat (first | (with_reducible first | exact HB.out | apply below_alloc | apply pw_below_drewN | apply below_drew1) | exact HB.out))) : w.heap.size ≤ gb275)); have n3_ := Aside0.mk ((by rw [hg]; exact (below_size (by repeat (first | (with_reducible first | exact HB.out | apply below_alloc | apply pw_below_drewN | apply below_drew1) | exact HB.out))) : w.heap.size ≤ gb275)); clear HB; have HB := n0_; have BK275 := n1_; have GW275 := n2_; have GE275 := n3_; clear n0_ n1_ n2_ n3_; clear hb hbox hg) | ((with_reducible refine gate_dst (N := 2) rfl ?_); refine box_event ?hg (N := 2) ?hd (cs := #[.string (⟨#[]⟩ : ByteArray), .int .i64 0, .int .i64 0]) (t := 156) ?hr ?_; (case hd => rfl); (case hg => rfl); (case hr => first | (go_simp; done) | (go_simp; rfl) | (go_simp; simp [IntKind.wrap, IntKind.bits, IntKind.signed])); intro gb276 hg w4 hbox hb; have n0_ := Aside0.mk (blk_below (g := gb275) (o := .cells #[.string a0_0, .int .i64 a0_1, .int .i64 a0_2] 156 (0, 0)) (by (with_reducible repeat (first | refine blk_drewN ?_ _ | refine blk_drew ?_ | refine blk_alloc ?_ _)); exact BK275.out) hb); have n1_ := Aside0.mk (below_step (by repeat (first | (with_reducible first | exact HB.out | apply below_alloc | apply pw_below_drewN | apply below_drew1 | refine below_set ?_ GE275.out) | exact HB.out)) hb); have n2_ := Aside0.mk (hbox); have n3_ := Aside0.mk ((by rw [hg]; exact (below_size (by repeat (first | (with_reducible first | exact HB.out | apply below_alloc | apply pw_below_drewN | apply below_drew1 | refine below_set ?_ GE275.out) | exact HB.out))) : w.heap.size ≤ gb276)); have n4_ := Aside0.mk ((by rw [hg]; exact (below_size (by repeat (first | (with_reducible first | exact HB.out | apply below_alloc | apply pw_below_drewN | apply below_drew1 | refine below_set ?_ GE275.out) | exact HB.out))) : w.heap.size ≤ gb276)); have n5_ := Aside0.mk ((by rw [hg]; exact Nat.ne_of_lt (blk_lt (g := gb275) (o := .cells #[.string a0_0, .int .i64 a0_1, .int .i64 a0_2] 156 (0, 0)) (by (with_reducible repeat (first | refine blk_drewN ?_ _ | refine blk_drew ?_ | refine blk_alloc ?_ _)); exact BK275.out)) : gb275 ≠ gb276)); have n6_ := Aside0.mk ((by rw [hg]; exact Nat.ne_of_gt (blk_lt (g := gb275) (o := .cells #[.string a0_0, .int .i64 a0_1, .int .i64 a0_2] 156 (0, 0)) (by (with_reducible repeat (first | refine blk_drewN ?_ _ | refine blk_drew ?_ | refine blk_alloc ?_ _)); exact BK275.out)) : gb276 ≠ gb275)); clear BK275; clear HB; have BK275 := n0_; have HB := n1_; have BK276 := n2_; have GW276 := n3_; have GE276 := n4_; have NB275_276 := n5_; have NB276_275 := n6_; clear n0_ n1_ n2_ n3_ n4_ n5_ n6_; clear hb hbox hg; have hnb5 := NB275_276.out; have hnc5 := NB276_275.out; have hcz6_0 : w4.cell? ⟨gb275, 0, none⟩ = some (.string a0_0) := (blk_cell BK275.out 0).trans rfl; have hcz6_1 : w4.cell? ⟨gb275, 1, none⟩ = some (.int .i64 a0_1) := (blk_cell BK275.out 1).trans rfl; have hcz6_2 : w4.cell? ⟨gb275, 2, none⟩ = some (.int .i64 a0_2) := (blk_cell BK275.out 2).trans rfl; have hfz6_0 := blk_frozen BK275.out 0; have hfz6_1 := blk_frozen BK275.out 1; have hfz6_2 := blk_frozen BK275.out 2))
    go_loopg [4, 5, 6] k (fun kq v4 v5 v6 w' => ∃ (x4_1 : Int) (x5_1 : Int) (x6_1 : Int) (x276001_1 : Int) (x276002_1 : Int) (x277000_1 : ByteArray) (x277001_1 : Int) (x277002_1 : Int), v4 = .int .u64 x4_1 ∧ v5 = .int .u64 x5_1 ∧ v6 = .int .i64 x6_1 ∧ Aside0 (cohortref01_Reader_Number.l0 kq x4_1 x5_1 x6_1 a0_0 x276001_1 x276002_1 = some (r1, r2, r3, r4)) ∧ Aside0 (kq ≤ k) ∧ Aside0 (w'.heap[gb275]? = some (.cells #[.string a0_0, .int .i64 x276001_1, .int .i64 x276002_1] 156 (0, 0))) ∧ Aside0 (w'.heap[gb276]? = some (.cells #[.string x277000_1, .int .i64 x277001_1, .int .i64 x277002_1] 156 (0, 0))) ∧ Aside0 (Below w.heap.size w w'))
    case atStart => exact ⟨(0), (1), (0), (a0_1), (a0_2), ((⟨#[]⟩ : ByteArray)), (0), (0), (by first | rfl | (simp; done) | (simp [*]; done)), (by first | rfl | (simp; done) | (simp [*]; done)), (by first | rfl | (simp; done) | (simp [*]; done)), H', ⟨Nat.le_refl _⟩, ⟨by (with_reducible repeat (first | refine blk_drewN ?_ _ | refine blk_drew ?_ | refine blk_alloc ?_ _)); exact BK275.out⟩, ⟨by (with_reducible repeat (first | refine blk_drewN ?_ _ | refine blk_drew ?_ | refine blk_alloc ?_ _)); exact BK276.out⟩, ⟨by repeat (first | (with_reducible first | exact HB.out | apply below_alloc | apply pw_below_drewN | apply below_drew1 | refine below_set ?_ GE275.out | refine below_set ?_ GE276.out) | exact HB.out)⟩⟩
    case round =>
      clear H'
      try clear c1
      try clear c2
      try clear c2b0
      try clear c2b1
      try clear p2
      try clear c5
      try clear hcz6_0
      try clear hcz6_1
      try clear hcz6_2
      try clear hfz6_0
      try clear hfz6_1
      try clear hfz6_2
      obtain ⟨x4_1, x5_1, x6_1, x276001_1, x276002_1, x277000_1, x277001_1, x277002_1, rfl, rfl, rfl, HA, HK1, BK275, BK276, HB⟩ := hrel
      cases gk with
      | zero => exact absurd HA.out (by simp [cohortref01_Reader_Number.l0])
      | succ k1 =>
        have H := HA.out
        clear HA
        simp only [cohortref01_Reader_Number.l0] at H
        by_cases c7 : x6_1 < 10
        · rw [if_pos c7] at H
          have c7b0 : decide (x6_1 < 10) = true := decide_eq_true c7
          clear c7
          by_cases c8 : (wrap64 (x276001_1 + x6_1)) ≥ (a0_0.size : Int)
          · rw [if_pos c8] at H
            have c8b0 : decide ((a0_0.size : Int) ≤ (wrap64 (x276001_1 + x6_1))) = true := decide_eq_true c8
            clear c8
            simp only [Option.some.injEq, Prod.mk.injEq] at H
            obtain ⟨rfl, rfl, rfl, rfl⟩ := H
            have hnb9 := NB275_276.out
            have hnc9 := NB276_275.out
            have hcz10_0 : wr.cell? ⟨gb275, 0, none⟩ = some (.string a0_0) := (blk_cell BK275.out 0).trans rfl
            have hcz10_1 : wr.cell? ⟨gb275, 1, none⟩ = some (.int .i64 x276001_1) := (blk_cell BK275.out 1).trans rfl
            have hcz10_2 : wr.cell? ⟨gb275, 2, none⟩ = some (.int .i64 x276002_1) := (blk_cell BK275.out 2).trans rfl
            have hfz10_0 := blk_frozen BK275.out 0
            have hfz10_1 := blk_frozen BK275.out 1
            have hfz10_2 := blk_frozen BK275.out 2
            have hcz11_0 : wr.cell? ⟨gb276, 0, none⟩ = some (.string x277000_1) := (blk_cell BK276.out 0).trans rfl
            have hcz11_1 : wr.cell? ⟨gb276, 1, none⟩ = some (.int .i64 x277001_1) := (blk_cell BK276.out 1).trans rfl
            have hcz11_2 : wr.cell? ⟨gb276, 2, none⟩ = some (.int .i64 x277002_1) := (blk_cell BK276.out 2).trans rfl
            have hfz11_0 := blk_frozen BK276.out 0
            have hfz11_1 := blk_frozen BK276.out 1
            have hfz11_2 := blk_frozen BK276.out 2
            go_wp2
            refine bodyPost_ret (results_ct rfl _ _ gb276 156 #[.string a0_0, .int .i64 x276001_1, .int .i64 4] (0, 0) _ rfl (by (with_reducible repeat (first | refine blk_drewN ?_ _ | refine blk_drew ?_ | refine blk_alloc ?_ _)); refine blk_put (cs := #[.string a0_0, .int .i64 x276001_1, .int .i64 x277002_1]) ?_ 2 _ rfl; (with_reducible repeat (first | refine blk_drewN ?_ _ | refine blk_drew ?_ | refine blk_alloc ?_ _)); refine blk_put (cs := #[.string a0_0, .int .i64 x277001_1, .int .i64 x277002_1]) ?_ 1 _ rfl; (with_reducible repeat (first | refine blk_drewN ?_ _ | refine blk_drew ?_ | refine blk_alloc ?_ _)); refine blk_put (cs := #[.string x277000_1, .int .i64 x277001_1, .int .i64 x277002_1]) ?_ 0 _ rfl; (with_reducible repeat (first | refine blk_drewN ?_ _ | refine blk_drew ?_ | refine blk_alloc ?_ _)); refine blk_far ?_ NB276_275.out _; (with_reducible repeat (first | refine blk_drewN ?_ _ | refine blk_drew ?_ | refine blk_alloc ?_ _)); exact BK276.out) Try.underlying156 rfl (by kernel_rfl)) rfl ?_
            exact ⟨by first | rfl | (simp [errW_none, errW_some] <;> rfl) | (simp [*, errW_none, errW_some] <;> rfl), by repeat (first | (with_reducible first | exact HB.out | apply below_alloc | apply pw_below_drewN | apply below_drew1 | refine below_set ?_ GE275.out | refine below_set ?_ GE276.out) | exact HB.out)⟩
          · rw [if_neg c8] at H
            have c8b0 : decide ((a0_0.size : Int) ≤ (wrap64 (x276001_1 + x6_1))) = false := decide_eq_false c8
            clear c8
            obtain ⟨ji12, hji12⟩ : ∃ j_ : Int, (wrap64 (x276001_1 + x6_1)) = j_ := ⟨_, rfl⟩
            replace H : (if 0 ≤ (ji12) then (if (ji12) < (a0_0.size : Int) then (if x6_1 = 9 then (if (IntKind.u64.wrap (bt a0_0 (ji12))) > 1 then (cohortref01_Reader_Number.j1 k1 x4_1 x5_1 x6_1 (IntKind.u64.wrap (bt a0_0 (ji12))) true a0_0 x276001_1 x276002_1) else (if x6_1 > 0 then (cohortref01_Reader_Number.j1 k1 x4_1 x5_1 x6_1 (IntKind.u64.wrap (bt a0_0 (ji12))) ((IntKind.u64.wrap (bt a0_0 (ji12))) == 0) a0_0 x276001_1 x276002_1) else (cohortref01_Reader_Number.j1 k1 x4_1 x5_1 x6_1 (IntKind.u64.wrap (bt a0_0 (ji12))) false a0_0 x276001_1 x276002_1))) else (if x6_1 > 0 then (cohortref01_Reader_Number.j1 k1 x4_1 x5_1 x6_1 (IntKind.u64.wrap (bt a0_0 (ji12))) ((IntKind.u64.wrap (bt a0_0 (ji12))) == 0) a0_0 x276001_1 x276002_1) else (cohortref01_Reader_Number.j1 k1 x4_1 x5_1 x6_1 (IntKind.u64.wrap (bt a0_0 (ji12))) false a0_0 x276001_1 x276002_1))) else (none)) else (none)) = some (r1, r2, r3, r4) := by first | (rw [hji12] at H; exact H) | (simp only [hji12] at H ⊢; exact H)
            (try rw [hji12] at c8b0)
            have hji12w : (IntKind.i64.wrap (x276001_1 + x6_1)) = ji12 := (i64_w _).trans hji12
            by_cases c13 : 0 ≤ (ji12)
            · rw [if_pos c13] at H
              have c13b0 : decide (0 ≤ (ji12)) = true := decide_eq_true c13
              clear c13
              by_cases c14 : (ji12) < (a0_0.size : Int)
              · rw [if_pos c14] at H
                have c14b0 : decide ((ji12) < (a0_0.size : Int)) = true := decide_eq_true c14
                clear c14
                have HC16 := Aside0.mk H
                clear H
                have hnb17 := NB275_276.out
                have hnc17 := NB276_275.out
                have hcz18_0 : wr.cell? ⟨gb275, 0, none⟩ = some (.string a0_0) := (blk_cell BK275.out 0).trans rfl
                have hcz18_1 : wr.cell? ⟨gb275, 1, none⟩ = some (.int .i64 x276001_1) := (blk_cell BK275.out 1).trans rfl
                have hcz18_2 : wr.cell? ⟨gb275, 2, none⟩ = some (.int .i64 x276002_1) := (blk_cell BK275.out 2).trans rfl
                have hfz18_0 := blk_frozen BK275.out 0
                have hfz18_1 := blk_frozen BK275.out 1
                have hfz18_2 := blk_frozen BK275.out 2
                have p15 : 0 ≤ ((ji12) : Int) := of_decide_eq_true (by first | (with_reducible assumption) | assumption)
                have q15 : (ji12) < (a0_0.size : Int) := of_decide_eq_true (by first | (with_reducible assumption) | assumption)
                have hx15 := bt_at a0_0 (ji12)
                replace p15 := eq_true p15
                replace q15 := eq_true q15
                go_upto_region 11 with (fail)
                go_cut [47] (fun v47 wc => ∃ (kq : Nat) (x47_15 : Bool), v47 = .bool x47_15 ∧ Aside0 (cohortref01_Reader_Number.j1 kq x4_1 x5_1 x6_1 (IntKind.u64.wrap (bt a0_0 (ji12))) x47_15 a0_0 x276001_1 x276002_1 = some (r1, r2, r3, r4)) ∧ Aside0 (kq ≤ k1) ∧ Aside0 (wc.heap[gb275]? = some (.cells #[.string a0_0, .int .i64 x276001_1, .int .i64 x276002_1] 156 (0, 0))) ∧ Aside0 (wc.heap[gb276]? = some (.cells #[.string x277000_1, .int .i64 x277001_1, .int .i64 x277002_1] 156 (0, 0))) ∧ Aside0 (Below w.heap.size w wc))
                case first =>
                  have H := HC16.out
                  clear HC16
                  by_cases c19 : x6_1 = 9
                  · rw [if_pos c19] at H
                    have c19b0 : (x6_1 == 9) = true := beq_iff_eq.mpr c19
                    have c19b1 : (x6_1 != 9) = false := bne_eq_false_iff_eq.mpr c19
                    clear c19
                    (first | rw [c19b0] | (simp only [i64_w, i32_w]; rw [c19b0]) | skip)
                    by_cases c20 : (IntKind.u64.wrap (bt a0_0 (ji12))) > 1
                    · rw [if_pos c20] at H
                      have c20b0 : decide (1 < (IntKind.u64.wrap (bt a0_0 (ji12)))) = true := decide_eq_true c20
                      clear c20
                      have H' := Aside0.mk H
                      clear H
                      go_wp2
                      go_meet
                      case rel => exact ⟨_, (true), (by first | rfl | (simp; done) | (simp [*]; done)), H', ⟨by have := HK1.out; first | omega | exact Nat.le_refl _⟩, ⟨by (with_reducible repeat (first | refine blk_drewN ?_ _ | refine blk_drew ?_ | refine blk_alloc ?_ _)); exact BK275.out⟩, ⟨by (with_reducible repeat (first | refine blk_drewN ?_ _ | refine blk_drew ?_ | refine blk_alloc ?_ _)); exact BK276.out⟩, ⟨by repeat (first | (with_reducible first | exact HB.out | apply below_alloc | apply pw_below_drewN | apply below_drew1 | refine below_set ?_ GE275.out | refine below_set ?_ GE276.out) | exact HB.out)⟩⟩
                    · rw [if_neg c20] at H
                      have c20b0 : decide (1 < (IntKind.u64.wrap (bt a0_0 (ji12)))) = false := decide_eq_false c20
                      clear c20
                      by_cases c21 : x6_1 > 0
                      · rw [if_pos c21] at H
                        have c21b0 : decide (0 < x6_1) = true := decide_eq_true c21
                        clear c21
                        have H' := Aside0.mk H
                        clear H
                        go_wp2
                        go_meet
                        case rel => exact ⟨_, (((IntKind.u64.wrap (bt a0_0 (ji12))) == 0)), (by first | rfl | (simp; done) | (simp only [← hji12] <;> (first | rfl | simp)) | (simp [*]; done)), H', ⟨by have := HK1.out; first | omega | exact Nat.le_refl _⟩, ⟨by (with_reducible repeat (first | refine blk_drewN ?_ _ | refine blk_drew ?_ | refine blk_alloc ?_ _)); exact BK275.out⟩, ⟨by (with_reducible repeat (first | refine blk_drewN ?_ _ | refine blk_drew ?_ | refine blk_alloc ?_ _)); exact BK276.out⟩, ⟨by repeat (first | (with_reducible first | exact HB.out | apply below_alloc | apply pw_below_drewN | apply below_drew1 | refine below_set ?_ GE275.out | refine below_set ?_ GE276.out) | exact HB.out)⟩⟩
                      · rw [if_neg c21] at H
                        have c21b0 : decide (0 < x6_1) = false := decide_eq_false c21
                        clear c21
                        have H' := Aside0.mk H
                        clear H
                        go_wp2
                        go_meet
                        case rel => exact ⟨_, (false), (by first | rfl | (simp; done) | (simp [*]; done)), H', ⟨by have := HK1.out; first | omega | exact Nat.le_refl _⟩, ⟨by (with_reducible repeat (first | refine blk_drewN ?_ _ | refine blk_drew ?_ | refine blk_alloc ?_ _)); exact BK275.out⟩, ⟨by (with_reducible repeat (first | refine blk_drewN ?_ _ | refine blk_drew ?_ | refine blk_alloc ?_ _)); exact BK276.out⟩, ⟨by repeat (first | (with_reducible first | exact HB.out | apply below_alloc | apply pw_below_drewN | apply below_drew1 | refine below_set ?_ GE275.out | refine below_set ?_ GE276.out) | exact HB.out)⟩⟩
                  · rw [if_neg c19] at H
                    have c19b0 : (x6_1 == 9) = false := beq_eq_false_iff_ne.mpr c19
                    have c19b1 : (x6_1 != 9) = true := bne_iff_ne.mpr c19
                    (first | rw [c19b0] | (simp only [i64_w, i32_w]; rw [c19b0]) | skip)
                    by_cases c22 : x6_1 > 0
                    · rw [if_pos c22] at H
                      have c22b0 : decide (0 < x6_1) = true := decide_eq_true c22
                      clear c22
                      have H' := Aside0.mk H
                      clear H
                      go_wp2
                      go_meet
                      case rel => exact ⟨_, (((IntKind.u64.wrap (bt a0_0 (ji12))) == 0)), (by first | rfl | (simp; done) | (simp only [← hji12] <;> (first | rfl | simp)) | (simp [*]; done)), H', ⟨by have := HK1.out; first | omega | exact Nat.le_refl _⟩, ⟨by (with_reducible repeat (first | refine blk_drewN ?_ _ | refine blk_drew ?_ | refine blk_alloc ?_ _)); exact BK275.out⟩, ⟨by (with_reducible repeat (first | refine blk_drewN ?_ _ | refine blk_drew ?_ | refine blk_alloc ?_ _)); exact BK276.out⟩, ⟨by repeat (first | (with_reducible first | exact HB.out | apply below_alloc | apply pw_below_drewN | apply below_drew1 | refine below_set ?_ GE275.out | refine below_set ?_ GE276.out) | exact HB.out)⟩⟩
                    · rw [if_neg c22] at H
                      have c22b0 : decide (0 < x6_1) = false := decide_eq_false c22
                      clear c22
                      have H' := Aside0.mk H
                      clear H
                      go_wp2
                      go_meet
                      case rel => exact ⟨_, (false), (by first | rfl | (simp; done) | (simp [*]; done)), H', ⟨by have := HK1.out; first | omega | exact Nat.le_refl _⟩, ⟨by (with_reducible repeat (first | refine blk_drewN ?_ _ | refine blk_drew ?_ | refine blk_alloc ?_ _)); exact BK275.out⟩, ⟨by (with_reducible repeat (first | refine blk_drewN ?_ _ | refine blk_drew ?_ | refine blk_alloc ?_ _)); exact BK276.out⟩, ⟨by repeat (first | (with_reducible first | exact HB.out | apply below_alloc | apply pw_below_drewN | apply below_drew1 | refine below_set ?_ GE275.out | refine below_set ?_ GE276.out) | exact HB.out)⟩⟩
                case rest =>
                  clear HC16
                  try clear c1
                  try clear p1
                  try clear q1
                  try clear hx1
                  try clear c2
                  try clear c2b0
                  try clear c2b1
                  try clear p2
                  try clear c5
                  try clear p6
                  try clear c7
                  try clear c7b0
                  try clear c8
                  try clear c8b0
                  try clear c9
                  try clear c13
                  try clear c13b0
                  try clear c14
                  try clear c14b0
                  try clear p15
                  try clear q15
                  try clear hx15
                  try clear c17
                  try clear c19
                  try clear c19b0
                  try clear c19b1
                  try clear c20
                  try clear c20b0
                  try clear c21
                  try clear c21b0
                  try clear c22
                  try clear c22b0
                  try clear hcz10_0
                  try clear hcz10_1
                  try clear hcz10_2
                  try clear hcz11_0
                  try clear hcz11_1
                  try clear hcz11_2
                  try clear hcz18_0
                  try clear hcz18_1
                  try clear hcz18_2
                  try clear hcz6_0
                  try clear hcz6_1
                  try clear hcz6_2
                  try clear hfz10_0
                  try clear hfz10_1
                  try clear hfz10_2
                  try clear hfz11_0
                  try clear hfz11_1
                  try clear hfz11_2
                  try clear hfz18_0
                  try clear hfz18_1
                  try clear hfz18_2
                  try clear hfz6_0
                  try clear hfz6_1
                  try clear hfz6_2
                  try clear p15
                  try clear p2
                  try clear q15
                  obtain ⟨kq, x47_15, rfl, HA, HJ15, BK275, BK276, HB⟩ := hcut
                  cases kq with
                  | zero => exact absurd HA.out (by simp [cohortref01_Reader_Number.j1])
                  | succ kj15 =>
                    have H := HA.out
                    clear HA
                    simp only [cohortref01_Reader_Number.j1] at H
                    by_cases c23 : x47_15 = true
                    · subst c23
                      have H1 : (some (a0_0, x276001_1, 6, 0)) = some (r1, r2, r3, r4) := by rw [if_pos rfl] at H; exact H
                      clear H
                      have H := H1
                      clear H1
                      simp only [Option.some.injEq, Prod.mk.injEq] at H
                      obtain ⟨rfl, rfl, rfl, rfl⟩ := H
                      have hnb24 := NB275_276.out
                      have hnc24 := NB276_275.out
                      have hcz25_0 : wc.cell? ⟨gb275, 0, none⟩ = some (.string a0_0) := (blk_cell BK275.out 0).trans rfl
                      have hcz25_1 : wc.cell? ⟨gb275, 1, none⟩ = some (.int .i64 x276001_1) := (blk_cell BK275.out 1).trans rfl
                      have hcz25_2 : wc.cell? ⟨gb275, 2, none⟩ = some (.int .i64 x276002_1) := (blk_cell BK275.out 2).trans rfl
                      have hfz25_0 := blk_frozen BK275.out 0
                      have hfz25_1 := blk_frozen BK275.out 1
                      have hfz25_2 := blk_frozen BK275.out 2
                      have hcz26_0 : wc.cell? ⟨gb276, 0, none⟩ = some (.string x277000_1) := (blk_cell BK276.out 0).trans rfl
                      have hcz26_1 : wc.cell? ⟨gb276, 1, none⟩ = some (.int .i64 x277001_1) := (blk_cell BK276.out 1).trans rfl
                      have hcz26_2 : wc.cell? ⟨gb276, 2, none⟩ = some (.int .i64 x277002_1) := (blk_cell BK276.out 2).trans rfl
                      have hfz26_0 := blk_frozen BK276.out 0
                      have hfz26_1 := blk_frozen BK276.out 1
                      have hfz26_2 := blk_frozen BK276.out 2
                      go_wp2
                      refine bodyPost_ret (results_ct rfl _ _ gb276 156 #[.string a0_0, .int .i64 x276001_1, .int .i64 6] (0, 0) _ rfl (by (with_reducible repeat (first | refine blk_drewN ?_ _ | refine blk_drew ?_ | refine blk_alloc ?_ _)); refine blk_put (cs := #[.string a0_0, .int .i64 x276001_1, .int .i64 x277002_1]) ?_ 2 _ rfl; (with_reducible repeat (first | refine blk_drewN ?_ _ | refine blk_drew ?_ | refine blk_alloc ?_ _)); refine blk_put (cs := #[.string a0_0, .int .i64 x277001_1, .int .i64 x277002_1]) ?_ 1 _ rfl; (with_reducible repeat (first | refine blk_drewN ?_ _ | refine blk_drew ?_ | refine blk_alloc ?_ _)); refine blk_put (cs := #[.string x277000_1, .int .i64 x277001_1, .int .i64 x277002_1]) ?_ 0 _ rfl; (with_reducible repeat (first | refine blk_drewN ?_ _ | refine blk_drew ?_ | refine blk_alloc ?_ _)); refine blk_far ?_ NB276_275.out _; (with_reducible repeat (first | refine blk_drewN ?_ _ | refine blk_drew ?_ | refine blk_alloc ?_ _)); exact BK276.out) Try.underlying156 rfl (by kernel_rfl)) rfl ?_
                      exact ⟨by first | rfl | (simp [errW_none, errW_some] <;> rfl) | (simp only [← hji12]; first | rfl | (simp [errW_none, errW_some] <;> rfl)) | (simp [*, errW_none, errW_some] <;> rfl), by repeat (first | (with_reducible first | exact HB.out | apply below_alloc | apply pw_below_drewN | apply below_drew1 | refine below_set ?_ GE275.out | refine below_set ?_ GE276.out) | exact HB.out)⟩
                    · replace c23 := Bool.eq_false_iff.mpr c23
                      subst c23
                      have H1 : (if (IntKind.u64.wrap (bt a0_0 (ji12))) < 128 then (some (a0_0, wrap64 (x276001_1 + (wrap64 (x6_1 + 1))), x276002_1, IntKind.u64.wrap (x4_1 + (IntKind.u64.wrap ((Int.tmod (IntKind.u64.wrap (bt a0_0 (ji12))) 128) * x5_1))))) else (cohortref01_Reader_Number.l0 kj15 (IntKind.u64.wrap (x4_1 + (IntKind.u64.wrap ((Int.tmod (IntKind.u64.wrap (bt a0_0 (ji12))) 128) * x5_1)))) (IntKind.u64.wrap (x5_1 * 128)) (wrap64 (x6_1 + 1)) a0_0 x276001_1 x276002_1)) = some (r1, r2, r3, r4) := by rw [if_neg (show ¬ (false = true) by decide)] at H; exact H
                      clear H
                      have H := H1
                      clear H1
                      by_cases c27 : (IntKind.u64.wrap (bt a0_0 (ji12))) < 128
                      · rw [if_pos c27] at H
                        have c27b0 : decide ((IntKind.u64.wrap (bt a0_0 (ji12))) < 128) = true := decide_eq_true c27
                        clear c27
                        simp only [Option.some.injEq, Prod.mk.injEq] at H
                        obtain ⟨rfl, rfl, rfl, rfl⟩ := H
                        have hnb28 := NB275_276.out
                        have hnc28 := NB276_275.out
                        have hcz29_0 : wc.cell? ⟨gb275, 0, none⟩ = some (.string a0_0) := (blk_cell BK275.out 0).trans rfl
                        have hcz29_1 : wc.cell? ⟨gb275, 1, none⟩ = some (.int .i64 x276001_1) := (blk_cell BK275.out 1).trans rfl
                        have hcz29_2 : wc.cell? ⟨gb275, 2, none⟩ = some (.int .i64 x276002_1) := (blk_cell BK275.out 2).trans rfl
                        have hfz29_0 := blk_frozen BK275.out 0
                        have hfz29_1 := blk_frozen BK275.out 1
                        have hfz29_2 := blk_frozen BK275.out 2
                        have hcz30_0 : wc.cell? ⟨gb276, 0, none⟩ = some (.string x277000_1) := (blk_cell BK276.out 0).trans rfl
                        have hcz30_1 : wc.cell? ⟨gb276, 1, none⟩ = some (.int .i64 x277001_1) := (blk_cell BK276.out 1).trans rfl
                        have hcz30_2 : wc.cell? ⟨gb276, 2, none⟩ = some (.int .i64 x277002_1) := (blk_cell BK276.out 2).trans rfl
                        have hfz30_0 := blk_frozen BK276.out 0
                        have hfz30_1 := blk_frozen BK276.out 1
                        have hfz30_2 := blk_frozen BK276.out 2
                        go_wp2
                        refine bodyPost_ret (results_ct rfl _ _ gb276 156 #[.string a0_0, .int .i64 (wrap64 (x276001_1 + (wrap64 (x6_1 + 1)))), .int .i64 x276002_1] (0, 0) _ rfl (by (with_reducible repeat (first | refine blk_drewN ?_ _ | refine blk_drew ?_ | refine blk_alloc ?_ _)); refine blk_put (cs := #[.string a0_0, .int .i64 (wrap64 (x276001_1 + (wrap64 (x6_1 + 1)))), .int .i64 x277002_1]) ?_ 2 _ rfl; (with_reducible repeat (first | refine blk_drewN ?_ _ | refine blk_drew ?_ | refine blk_alloc ?_ _)); refine blk_put (cs := #[.string a0_0, .int .i64 x277001_1, .int .i64 x277002_1]) ?_ 1 _ rfl; (with_reducible repeat (first | refine blk_drewN ?_ _ | refine blk_drew ?_ | refine blk_alloc ?_ _)); refine blk_put (cs := #[.string x277000_1, .int .i64 x277001_1, .int .i64 x277002_1]) ?_ 0 _ rfl; (with_reducible repeat (first | refine blk_drewN ?_ _ | refine blk_drew ?_ | refine blk_alloc ?_ _)); refine blk_far ?_ NB276_275.out _; (with_reducible repeat (first | refine blk_drewN ?_ _ | refine blk_drew ?_ | refine blk_alloc ?_ _)); exact BK276.out) Try.underlying156 rfl (by kernel_rfl)) rfl ?_
                        exact ⟨by first | rfl | (simp [errW_none, errW_some] <;> rfl) | (simp only [← hji12]; first | rfl | (simp [errW_none, errW_some] <;> rfl)) | (simp [*, errW_none, errW_some] <;> rfl), by repeat (first | (with_reducible first | exact HB.out | apply below_alloc | apply pw_below_drewN | apply below_drew1 | refine below_set ?_ GE275.out | refine below_set ?_ GE276.out) | exact HB.out)⟩
                      · rw [if_neg c27] at H
                        have c27b0 : decide ((IntKind.u64.wrap (bt a0_0 (ji12))) < 128) = false := decide_eq_false c27
                        clear c27
                        have H' := Aside0.mk H
                        clear H
                        go_wp2
                        go_roundg kj15
                        case measure => have := HK1.out; have := HJ15.out; omega
                        case rel => exact ⟨(IntKind.u64.wrap (x4_1 + (IntKind.u64.wrap ((Int.tmod (IntKind.u64.wrap (bt a0_0 (ji12))) 128) * x5_1)))), (IntKind.u64.wrap (x5_1 * 128)), (wrap64 (x6_1 + 1)), (x276001_1), (x276002_1), (x277000_1), (x277001_1), (x277002_1), (by first | rfl | (simp; done) | (simp only [← hji12] <;> (first | rfl | simp)) | (simp [*]; done)), (by first | rfl | (simp; done) | (simp [*]; done)), (by first | rfl | (simp; done) | (simp [*]; done)), H', ⟨by have := HK1.out; have := HJ15.out; omega⟩, ⟨by (with_reducible repeat (first | refine blk_drewN ?_ _ | refine blk_drew ?_ | refine blk_alloc ?_ _)); exact BK275.out⟩, ⟨by (with_reducible repeat (first | refine blk_drewN ?_ _ | refine blk_drew ?_ | refine blk_alloc ?_ _)); exact BK276.out⟩, ⟨by repeat (first | (with_reducible first | exact HB.out | apply below_alloc | apply pw_below_drewN | apply below_drew1 | refine below_set ?_ GE275.out | refine below_set ?_ GE276.out) | exact HB.out)⟩⟩
              · rw [if_neg c14] at H
                exact absurd H (by simp)
            · rw [if_neg c13] at H
              exact absurd H (by simp)
        · rw [if_neg c7] at H
          have c7b0 : decide (x6_1 < 10) = false := decide_eq_false c7
          clear c7
          simp only [Option.some.injEq, Prod.mk.injEq] at H
          obtain ⟨rfl, rfl, rfl, rfl⟩ := H
          have hnb31 := NB275_276.out
          have hnc31 := NB276_275.out
          have hcz32_0 : wr.cell? ⟨gb275, 0, none⟩ = some (.string a0_0) := (blk_cell BK275.out 0).trans rfl
          have hcz32_1 : wr.cell? ⟨gb275, 1, none⟩ = some (.int .i64 x276001_1) := (blk_cell BK275.out 1).trans rfl
          have hcz32_2 : wr.cell? ⟨gb275, 2, none⟩ = some (.int .i64 x276002_1) := (blk_cell BK275.out 2).trans rfl
          have hfz32_0 := blk_frozen BK275.out 0
          have hfz32_1 := blk_frozen BK275.out 1
          have hfz32_2 := blk_frozen BK275.out 2
          have hcz33_0 : wr.cell? ⟨gb276, 0, none⟩ = some (.string x277000_1) := (blk_cell BK276.out 0).trans rfl
          have hcz33_1 : wr.cell? ⟨gb276, 1, none⟩ = some (.int .i64 x277001_1) := (blk_cell BK276.out 1).trans rfl
          have hcz33_2 : wr.cell? ⟨gb276, 2, none⟩ = some (.int .i64 x277002_1) := (blk_cell BK276.out 2).trans rfl
          have hfz33_0 := blk_frozen BK276.out 0
          have hfz33_1 := blk_frozen BK276.out 1
          have hfz33_2 := blk_frozen BK276.out 2
          go_wp2
          refine bodyPost_ret (results_ct rfl _ _ gb276 156 #[.string a0_0, .int .i64 x276001_1, .int .i64 6] (0, 0) _ rfl (by (with_reducible repeat (first | refine blk_drewN ?_ _ | refine blk_drew ?_ | refine blk_alloc ?_ _)); refine blk_put (cs := #[.string a0_0, .int .i64 x276001_1, .int .i64 x277002_1]) ?_ 2 _ rfl; (with_reducible repeat (first | refine blk_drewN ?_ _ | refine blk_drew ?_ | refine blk_alloc ?_ _)); refine blk_put (cs := #[.string a0_0, .int .i64 x277001_1, .int .i64 x277002_1]) ?_ 1 _ rfl; (with_reducible repeat (first | refine blk_drewN ?_ _ | refine blk_drew ?_ | refine blk_alloc ?_ _)); refine blk_put (cs := #[.string x277000_1, .int .i64 x277001_1, .int .i64 x277002_1]) ?_ 0 _ rfl; (with_reducible repeat (first | refine blk_drewN ?_ _ | refine blk_drew ?_ | refine blk_alloc ?_ _)); refine blk_far ?_ NB276_275.out _; (with_reducible repeat (first | refine blk_drewN ?_ _ | refine blk_drew ?_ | refine blk_alloc ?_ _)); exact BK276.out) Try.underlying156 rfl (by kernel_rfl)) rfl ?_
          exact ⟨by first | rfl | (simp [errW_none, errW_some] <;> rfl) | (simp [*, errW_none, errW_some] <;> rfl), by repeat (first | (with_reducible first | exact HB.out | apply below_alloc | apply pw_below_drewN | apply below_drew1 | refine below_set ?_ GE275.out | refine below_set ?_ GE276.out) | exact HB.out)⟩
  · rw [if_neg c2] at H
    have c2b0 : (a0_2 == 0) = false := beq_eq_false_iff_ne.mpr c2
    have c2b1 : (a0_2 != 0) = true := bne_iff_ne.mpr c2
    simp only [Option.some.injEq, Prod.mk.injEq] at H
    obtain ⟨rfl, rfl, rfl, rfl⟩ := H
    go_enter Try.func149, Try.ntmps149
    go_wp2_with (first | ((with_reducible refine gate_dst (N := 1) rfl ?_); refine box_event ?hg (N := 1) ?hd (cs := #[.string a0_0, .int .i64 a0_1, .int .i64 a0_2]) (t := 156) ?hr ?_; (case hd => rfl); (case hg => rfl); (case hr => first | (go_simp; done) | (go_simp; rfl) | (go_simp; simp [IntKind.wrap, IntKind.bits, IntKind.signed])); intro gb275 hg w34 hbox hb; have n0_ := Aside0.mk (below_step (by repeat (first | (with_reducible first | exact HB.out | apply below_alloc | apply pw_below_drewN | apply below_drew1) | exact HB.out)) hb); have n1_ := Aside0.mk (hbox); have n2_ := Aside0.mk ((by rw [hg]; exact (below_size (by repeat (first | (with_reducible first | exact HB.out | apply below_alloc | apply pw_below_drewN | apply below_drew1) | exact HB.out))) : w.heap.size ≤ gb275)); have n3_ := Aside0.mk ((by rw [hg]; exact (below_size (by repeat (first | (with_reducible first | exact HB.out | apply below_alloc | apply pw_below_drewN | apply below_drew1) | exact HB.out))) : w.heap.size ≤ gb275)); clear HB; have HB := n0_; have BK275 := n1_; have GW275 := n2_; have GE275 := n3_; clear n0_ n1_ n2_ n3_; clear hb hbox hg) | ((with_reducible refine gate_dst (N := 2) rfl ?_); refine box_event ?hg (N := 2) ?hd (cs := #[.string (⟨#[]⟩ : ByteArray), .int .i64 0, .int .i64 0]) (t := 156) ?hr ?_; (case hd => rfl); (case hg => rfl); (case hr => first | (go_simp; done) | (go_simp; rfl) | (go_simp; simp [IntKind.wrap, IntKind.bits, IntKind.signed])); intro gb276 hg w35 hbox hb; have n0_ := Aside0.mk (blk_below (g := gb275) (o := .cells #[.string a0_0, .int .i64 a0_1, .int .i64 a0_2] 156 (0, 0)) (by (with_reducible repeat (first | refine blk_drewN ?_ _ | refine blk_drew ?_ | refine blk_alloc ?_ _)); exact BK275.out) hb); have n1_ := Aside0.mk (below_step (by repeat (first | (with_reducible first | exact HB.out | apply below_alloc | apply pw_below_drewN | apply below_drew1 | refine below_set ?_ GE275.out) | exact HB.out)) hb); have n2_ := Aside0.mk (hbox); have n3_ := Aside0.mk ((by rw [hg]; exact (below_size (by repeat (first | (with_reducible first | exact HB.out | apply below_alloc | apply pw_below_drewN | apply below_drew1 | refine below_set ?_ GE275.out) | exact HB.out))) : w.heap.size ≤ gb276)); have n4_ := Aside0.mk ((by rw [hg]; exact (below_size (by repeat (first | (with_reducible first | exact HB.out | apply below_alloc | apply pw_below_drewN | apply below_drew1 | refine below_set ?_ GE275.out) | exact HB.out))) : w.heap.size ≤ gb276)); have n5_ := Aside0.mk ((by rw [hg]; exact Nat.ne_of_lt (blk_lt (g := gb275) (o := .cells #[.string a0_0, .int .i64 a0_1, .int .i64 a0_2] 156 (0, 0)) (by (with_reducible repeat (first | refine blk_drewN ?_ _ | refine blk_drew ?_ | refine blk_alloc ?_ _)); exact BK275.out)) : gb275 ≠ gb276)); have n6_ := Aside0.mk ((by rw [hg]; exact Nat.ne_of_gt (blk_lt (g := gb275) (o := .cells #[.string a0_0, .int .i64 a0_1, .int .i64 a0_2] 156 (0, 0)) (by (with_reducible repeat (first | refine blk_drewN ?_ _ | refine blk_drew ?_ | refine blk_alloc ?_ _)); exact BK275.out)) : gb276 ≠ gb275)); clear BK275; clear HB; have BK275 := n0_; have HB := n1_; have BK276 := n2_; have GW276 := n3_; have GE276 := n4_; have NB275_276 := n5_; have NB276_275 := n6_; clear n0_ n1_ n2_ n3_ n4_ n5_ n6_; clear hb hbox hg; have hnb36 := NB275_276.out; have hnc36 := NB276_275.out; have hcz37_0 : w35.cell? ⟨gb275, 0, none⟩ = some (.string a0_0) := (blk_cell BK275.out 0).trans rfl; have hcz37_1 : w35.cell? ⟨gb275, 1, none⟩ = some (.int .i64 a0_1) := (blk_cell BK275.out 1).trans rfl; have hcz37_2 : w35.cell? ⟨gb275, 2, none⟩ = some (.int .i64 a0_2) := (blk_cell BK275.out 2).trans rfl; have hfz37_0 := blk_frozen BK275.out 0; have hfz37_1 := blk_frozen BK275.out 1; have hfz37_2 := blk_frozen BK275.out 2; have hcz38_0 : w35.cell? ⟨gb276, 0, none⟩ = some (.string (⟨#[]⟩ : ByteArray)) := (blk_cell BK276.out 0).trans rfl; have hcz38_1 : w35.cell? ⟨gb276, 1, none⟩ = some (.int .i64 0) := (blk_cell BK276.out 1).trans rfl; have hcz38_2 : w35.cell? ⟨gb276, 2, none⟩ = some (.int .i64 0) := (blk_cell BK276.out 2).trans rfl; have hfz38_0 := blk_frozen BK276.out 0; have hfz38_1 := blk_frozen BK276.out 1; have hfz38_2 := blk_frozen BK276.out 2))
    refine bodyPost_ret (results_ct rfl _ _ gb276 156 #[.string a0_0, .int .i64 a0_1, .int .i64 a0_2] (0, 0) _ rfl (by (with_reducible repeat (first | refine blk_drewN ?_ _ | refine blk_drew ?_ | refine blk_alloc ?_ _)); refine blk_put (cs := #[.string a0_0, .int .i64 a0_1, .int .i64 0]) ?_ 2 _ rfl; (with_reducible repeat (first | refine blk_drewN ?_ _ | refine blk_drew ?_ | refine blk_alloc ?_ _)); refine blk_put (cs := #[.string a0_0, .int .i64 0, .int .i64 0]) ?_ 1 _ rfl; (with_reducible repeat (first | refine blk_drewN ?_ _ | refine blk_drew ?_ | refine blk_alloc ?_ _)); refine blk_put (cs := #[.string (⟨#[]⟩ : ByteArray), .int .i64 0, .int .i64 0]) ?_ 0 _ rfl; (with_reducible repeat (first | refine blk_drewN ?_ _ | refine blk_drew ?_ | refine blk_alloc ?_ _)); exact BK276.out) Try.underlying156 rfl (by kernel_rfl)) rfl ?_
    exact ⟨by first | rfl | (simp [errW_none, errW_some] <;> rfl) | (simp [*, errW_none, errW_some] <;> rfl), by repeat (first | (with_reducible first | exact HB.out | apply below_alloc | apply pw_below_drewN | apply below_drew1 | refine below_set ?_ GE275.out | refine below_set ?_ GE276.out) | exact HB.out)⟩

end Go.Proofs.Ytbeefbhoccdicaa.QGraphReads
