/- The document's product of two numbers without sign, as four halves in an array: walked, and what the halves are. -/
import Derived.Test.YtkcngcmeiicpmaaProg
import Derived.Below
import Derived.Deep.Draws
import Derived.Deep.AppendLies
import Derived.Maps.AppendAt
import Derived.OwnWalk
import Derived.Laws.BytesArg
import Derived.Laws.MakeOwn
import Derived.Laws.OwnMore
import Derived.Deep.OwnRows
import Derived.Tactics
import Derived.Lib.ConvBytes
import Derived.Laws.Slices
import Derived.WalkKit
import Derived.KernelRfl
import Derived.RowKit3
import Derived.Deep.LoopGhost
import Derived.Deep.QuietTactic
import Derived.BigQuiet
import Derived.WideLaws
import Derived.Deep.DeepCutAuto
import Derived.Deep.CutBlock
import Derived.Deep.RegionHeld3
import Derived.Laws.Rows
import Derived.Lib.AppendStr
import Derived.ArgAppend
import Derived.Laws.IdiomCopy
import Derived.OrdersHeld
import Derived.Laws.BitsLemmas
import Derived.RowKit
import Derived.Test.YtkcngcmeiicpmaaWWords
import Derived.Test.YtkcngcmeiicpmaaWLast
import Derived.Test.YtkcngcmeiicpmaaWTab
import Derived.Test.YtkcngcmeiicpmaaWFour
import Derived.Test.YtkcngcmeiicpmaaWQPut
import Derived.Test.YtkcngcmeiicpmaaWApart
import Derived.Test.YtkcngcmeiicpmaaWArr
import Derived.Test.YtkcngcmeiicpmaaWZeros
import Derived.Test.YtkcngcmeiicpmaaWFoot
import Derived.Test.YtkcngcmeiicpmaaWKept
import Derived.Test.YtkcngcmeiicpmaaWShare
import Derived.Test.YtkcngcmeiicpmaaWN
import Derived.Test.YtkcngcmeiicpmaaWFootNe
import Derived.Test.YtkcngcmeiicpmaaWAt
import Derived.Test.YtkcngcmeiicpmaaWEqStruct
import Derived.Test.YtkcngcmeiicpmaaWRepsOne
import Derived.Test.YtkcngcmeiicpmaaWInv
import Derived.Test.YtkcngcmeiicpmaaWInvWords
import Derived.Test.YtkcngcmeiicpmaaWGuard
import Derived.Test.YtkcngcmeiicpmaaWNEv
import Derived.Test.YtkcngcmeiicpmaaWMore
import Derived.LoopN
import Derived.Lib.Hide
namespace Go.Proofs.Ytkcngcmeiicpmaa.Arr
open Go.RowKit Go.Proofs.YtkcngcmeiicpmaaW.PrintWords Go.Proofs.YtkcngcmeiicpmaaW.PrintLast Go.Proofs.YtkcngcmeiicpmaaW.PrintMore

def Blk (w : World) (g : Nat) (t : TypeId) (cs : Array Value) : Prop := w.heap[g]? = some (.cells cs t (0, 0))

section
variable {w w' : World} {g : Nat} {t : TypeId} {cs : Array Value}
theorem Blk.lt (h : Blk w g t cs) : g < w.heap.size := by
  rcases Nat.lt_or_ge g w.heap.size with hlt | hge
  · exact hlt
  · unfold Blk at h; rw [Array.getElem?_eq_none hge] at h; cases h
theorem Blk.cell (h : Blk w g t cs) (i : Nat) : w.cell? ⟨g, i, none⟩ = cs[i]? := cell_of_row w g i cs t (0, 0) h
theorem Blk.frozen (h : Blk w g t cs) (i : Nat) : w.frozen? ⟨g, i, none⟩ = false := by
  unfold Blk at h
  simp [World.frozen?, h]
theorem Blk.new (w : World) (t : TypeId) (cs : Array Value) : Blk (w.alloc (.cells cs t)) w.heap.size t cs := heap_alloc_new w _
theorem Blk.drew (h : Blk w g t cs) : Blk w.drew g t cs := h
theorem Blk.drewN (h : Blk w g t cs) (n : Nat) : Blk (w.drewN n) g t cs := h
theorem Blk.alloc (h : Blk w g t cs) (o : Obj) : Blk (w.alloc o) g t cs := (Below.heap_alloc w o g h.lt).trans h
theorem Blk.set_ (h : Blk w g t cs) (i : Nat) (u : Value) : Blk (w.setCell ⟨g, i, none⟩ u) g t (cs.setIfInBounds i u) := by
  unfold Blk at h ⊢
  simp [World.setCell, Array.getElem?_modify, h]
theorem Blk.far (h : Blk w g t cs) {p : Addr} (hp : g ≠ p.block) (u : Value) : Blk (w.setCell p u) g t cs := (Below.heap_setCell w p u g hp).trans h
theorem Blk.below {B : Nat} (h : Blk w g t cs) (hb : Below B w w') (hg : g < B) : Blk w' g t cs := (hb.block g hg).trans h
theorem Blk.grown {row : Option Nat} (h : Blk w g t cs) (hb : w.grownBy w' row) (hg : some g ≠ row) : Blk w' g t cs := (hb.block g h.lt hg).trans h
theorem Blk.ne_ {g' : Nat} {t' : TypeId} {cs' : Array Value} (h : Blk w g t cs) (h' : Blk w g' t' cs') (hne : t ≠ t') : g ≠ g' := by
  rintro rfl
  unfold Blk at h h'
  rw [h] at h'
  injection h' with h'
  injection h' with _ ht
  exact hne ht
theorem own_blk_ne {base : Nat} {e : TypeId} {size n : Nat} {v : Value} {xs : List Value} (h : w.ownsRow base e size v n xs) (hg : Blk w g t cs) (hne : e ≠ t) : v.ownBlock ≠ some g := by
  rcases h.2 with ⟨rfl, _⟩ | ⟨g', cap, cur, rfl, _, hh, _⟩
  · simp [Value.ownBlock]
  · intro he
    have : g' = g := by simpa [Value.ownBlock] using he
    subst this
    exact Blk.ne_ (t := e) hh hg hne rfl
end
theorem name_rounds {P : Program} {c : Code} {Q : Exit → Act → World → Prop} {n : Nat} {a : Act} {w : World} (R : World → Prop) (h : R w) (k : ∀ W, R W → Code.rounds P c Q n a W) : Code.rounds P c Q n a w := k w h

theorem half_le {a b : Int} (ha0 : 0 ≤ a) (ha : a ≤ 4294967295) (hb0 : 0 ≤ b) (hb : b ≤ 4294967295) : 0 ≤ a * b ∧ a * b ≤ 18446744065119617025 :=
  ⟨Int.mul_nonneg ha0 hb0, Int.mul_le_mul ha hb hb0 (by decide)⟩

/-- The halves of the product of two numbers, by the halves of each. -/
def c0 (a b : Int) : Int := a % 4294967296 * (b % 4294967296)
def c1 (a b : Int) : Int := a % 4294967296 * (b / 4294967296) + c0 a b / 4294967296
def d0 (a b : Int) : Int := a / 4294967296 * (b % 4294967296) + c1 a b % 4294967296
def d1 (a b : Int) : Int := a / 4294967296 * (b / 4294967296) + c1 a b / 4294967296 + d0 a b / 4294967296
def Prod (a b : Int) (e : Ending) : Prop := e = .returned (.agg #[.int .u64 (c0 a b % 4294967296), .int .u64 (d0 a b % 4294967296), .int .u64 (d1 a b % 4294967296), .int .u64 (d1 a b / 4294967296)])

theorem Blk.new_at (w : World) (t : TypeId) (cs : Array Value) {g : Nat} (h : g = w.heap.size) : Blk (w.alloc (.cells cs t)) g t cs := h ▸ Blk.new w t cs
theorem Blk.to_ {w : World} {g : Nat} {t : TypeId} {cs cs' : Array Value} (h : Blk w g t cs) (e : cs = cs') : Blk w g t cs' := e ▸ h
theorem below_drewN {B : Nat} {a w : World} (h : Below B a w) (n : Nat) : Below B a (w.drewN n) := ⟨h.os, h.tape, h.output, h.size, h.block⟩

/-- What lies in memory in the round's midst: the four halves so far, the result's cells, what was there. -/
def Mid (w : World) (p0 p1 p2 p3 : Int) (W : World) : Prop :=
  Blk W (w.heap.size + 1 + 1 + 1) 43 #[.int .u64 p0, .int .u64 p1, .int .u64 p2, .int .u64 p3] ∧ Blk W w.heap.size 43 #[.int .u64 0, .int .u64 0, .int .u64 0, .int .u64 0] ∧ Below w.heap.size w W

set_option maxHeartbeats 2000000 in
set_option maxRecDepth 100000 in
theorem product_calls (a b : Int) (w : World) (ha : 0 ≤ a) (hb : 0 ≤ b) (ha' : a ≤ 18446744073709551615) (hb' : b ≤ 18446744073709551615) :
    Calls Try.prog 24 #[.int .u64 a, .int .u64 b] w fun e w' => Prod a b e ∧ Below w.heap.size w w' := by
  obtain ⟨l00, h00⟩ := half_le (a := a % 4294967296) (b := b % 4294967296) (by omega) (by omega) (by omega) (by omega)
  obtain ⟨l01, h01⟩ := half_le (a := a % 4294967296) (b := b / 4294967296) (by omega) (by omega) (by omega) (by omega)
  obtain ⟨l10, h10⟩ := half_le (a := a / 4294967296) (b := b % 4294967296) (by omega) (by omega) (by omega) (by omega)
  obtain ⟨l11, h11⟩ := half_le (a := a / 4294967296) (b := b / 4294967296) (by omega) (by omega) (by omega) (by omega)
  go_enter Try.func24, Try.ntmps24
  go_wp2
  refine wp_loop_rounds 3 ?_
  rw [rounds_succ]
  go_wp2
  refine wp_loop_rounds 3 ?_
  rw [rounds_succ]
  go_wp2
  go_quiet (fail)
  go_wp2
  rw [rounds_succ]
  go_wp2
  go_quiet (fail)
  go_wp2
  rw [rounds_succ]
  go_wp2
  rw [rounds_succ]
  go_wp2
  refine wp_loop_rounds 3 ?_
  rw [rounds_succ]
  go_wp2
  go_quiet (fail)
  go_wp2
  rw [rounds_succ]
  go_wp2
  go_quiet (fail)
  go_wp2
  rw [rounds_succ]
  go_wp2
  refine name_rounds (Mid w (c0 a b % 4294967296) (d0 a b % 4294967296) (d1 a b % 4294967296) (d1 a b / 4294967296)) ?_ ?_
  · refine ⟨?_, ?_, ?_⟩
    · exact Blk.to_ ((((((((((Blk.new_at _ 43 _ (by simp)).drewN _).set_ 0 _).drewN _).set_ 1 _).set_ 2 _).drewN _).set_ 1 _).drewN _).set_ 2 _ |>.set_ 3 _) (by simp [c0, c1, d0, d1])
    · exact ((((((((((((((Blk.new w 43 _).alloc _).alloc _).alloc _).drewN _).far (by simp; omega) _).drewN _).far (by simp; omega) _).far (by simp; omega) _).drewN _).far (by simp; omega) _).drewN _).far (by simp; omega) _).far (by simp; omega) _)
    · exact (((below_drewN (((below_drewN ((((below_drewN ((below_drewN (((((Below.refl _ w).alloc (Nat.le_refl _) _).alloc (by simp) _).alloc (by simp; omega) _).alloc (by simp; omega) _) _).setCell (by simp; omega) _) _).setCell (by simp; omega) _).setCell (by simp; omega) _)) _).setCell (by simp; omega) _)) _).setCell (by simp; omega) _).setCell (by simp; omega) _)
  rintro W ⟨hB, hR, hw⟩
  have r0 := hR.cell 0
  have r1 := hR.cell 1
  have r2 := hR.cell 2
  have r3 := hR.cell 3
  have f0 := hR.frozen 0
  have f1 := hR.frozen 1
  have f2 := hR.frozen 2
  have f3 := hR.frozen 3
  simp only [List.getElem?_toArray, List.getElem?_cons_zero, List.getElem?_cons_succ] at r0 r1 r2 r3
  unfold Blk at hB
  have HB := Lib.hid hB
  clear hB hR
  rw [rounds_succ]
  go_wp2_with (refine wpList_load_row rfl 43 _ rfl _ rfl 43 _ (0, 0) _ HB.out Try.underlying43 rfl (by kernel_rfl) ?_)
  refine bodyPost_ret (v := .agg #[.int .u64 (c0 a b % 4294967296), .int .u64 (d0 a b % 4294967296), .int .u64 (d1 a b % 4294967296), .int .u64 (d1 a b / 4294967296)]) (by simp [results, Try.results24, go_sem, r0, r1, r2, r3]) rfl ⟨rfl, ?_⟩
  exact ((((hw.setCell (Nat.le_refl _) _).setCell (Nat.le_refl _) _).setCell (Nat.le_refl _) _).setCell (Nat.le_refl _) _)

/-- The product's halves: the lower two, and the higher two. -/
theorem halves {a b : Int} (ha : 0 ≤ a) (hb : 0 ≤ b) (ha' : a ≤ 18446744073709551615) (hb' : b ≤ 18446744073709551615) :
    c0 a b % 4294967296 + d0 a b % 4294967296 * 4294967296 = a * b % 18446744073709551616 ∧ d1 a b = a * b / 18446744073709551616 ∧ 0 ≤ d1 a b := by
  have ea : a = a / 4294967296 * 4294967296 + a % 4294967296 := by omega
  have eb : b = b / 4294967296 * 4294967296 + b % 4294967296 := by omega
  have e : a * b = a / 4294967296 * (b / 4294967296) * 18446744073709551616 + (a / 4294967296 * (b % 4294967296) + a % 4294967296 * (b / 4294967296)) * 4294967296 + a % 4294967296 * (b % 4294967296) := by
    conv => lhs; rw [ea, eb]
    generalize a / 4294967296 = x
    generalize a % 4294967296 = y
    generalize b / 4294967296 = z
    generalize b % 4294967296 = t
    rw [Int.add_mul, Int.mul_add, Int.mul_add, Int.add_mul]
    have h1 : x * 4294967296 * (z * 4294967296) = x * z * 18446744073709551616 := by
      rw [Int.mul_assoc x, Int.mul_left_comm 4294967296 z, ← Int.mul_assoc x z]; rfl
    have h2 : x * 4294967296 * t = x * t * 4294967296 := Int.mul_right_comm _ _ _
    have h3 : y * (z * 4294967296) = y * z * 4294967296 := (Int.mul_assoc _ _ _).symm
    omega
  have h00 := half_le (a := a % 4294967296) (b := b % 4294967296) (by omega) (by omega) (by omega) (by omega)
  have h01 := half_le (a := a % 4294967296) (b := b / 4294967296) (by omega) (by omega) (by omega) (by omega)
  have h10 := half_le (a := a / 4294967296) (b := b % 4294967296) (by omega) (by omega) (by omega) (by omega)
  have h11 := half_le (a := a / 4294967296) (b := b / 4294967296) (by omega) (by omega) (by omega) (by omega)
  rw [e]
  unfold d1 d0 c1 c0
  generalize a / 4294967296 * (b / 4294967296) = A at *
  generalize a / 4294967296 * (b % 4294967296) = B at *
  generalize a % 4294967296 * (b / 4294967296) = C at *
  generalize a % 4294967296 * (b % 4294967296) = D at *
  clear e ea eb
  refine ⟨?_, ?_, ?_⟩ <;> omega

end Go.Proofs.Ytkcngcmeiicpmaa.Arr
