/- Numbers are taken into places: walked. -/
import Derived.Test.YtbeefbhoccdicaaRdC
import Derived.Laws.CopyOwn
import Derived.Laws.Tables
namespace Go.Proofs.Ytbeefbhoccdicaa.TakeC
open Go.RowKit Go.Proofs.YtbeefbhoccdicaaW.PrintWords Go.Proofs.YtbeefbhoccdicaaW.PrintLast Go.Proofs.YtbeefbhoccdicaaW.PrintMore Go.Proofs.Ytbeefbhoccdicaa.QGraphReads Go.Proofs.Ytbeefbhoccdicaa.PlainV Go.Proofs.Ytbeefbhoccdicaa.WireNum Go.Proofs.Ytbeefbhoccdicaa.WireRead Go.Proofs.Ytbeefbhoccdicaa.RdSpec Go.Proofs.Ytbeefbhoccdicaa.RdC
set_option linter.unusedVariables false
set_option linter.unusedSimpArgs false

/-- Blocks that are no reader stand. -/
def KR (w w1 : World) : Prop := ∀ (i : Nat) (cs : Array Value) (t : TypeId), t ≠ 147 → w.heap[i]? = some (.cells cs t (0, 0)) → w1.heap[i]? = some (.cells cs t (0, 0))
theorem KR.of {w w1 w0 : World} {g : Nat} {s : ByteArray} {r : List Nat} (h : Rd w0 w g s r) (hk : KeepBut w w1 g none) : KR w w1 := by
  intro i cs t ht hb
  refine hk.blk hb ?_ (by simp)
  rintro rfl
  obtain ⟨c, hc⟩ := h.blk
  rw [hc] at hb
  injection hb with hb
  injection hb with _ hb
  exact ht hb.symm
theorem KR.trans {a b c : World} (h : KR a b) (k : KR b c) : KR a c := fun i cs t ht hb => k i cs t ht (h i cs t ht hb)
theorem KR.refl (a : World) : KR a a := fun _ _ _ _ h => h
theorem KR.alloc (w : World) (o : Obj) : KR w (w.alloc o) := fun _ _ _ _ h => blk_alloc h o
theorem KR.below {w w1 : World} (h : Below w.heap.size w w1) : KR w w1 := fun _ _ _ _ hb => blk_below hb h

theorem KR.far {w w1 : World} (h : KR w w1) {p : Addr} (hp : w.heap.size ≤ p.block) (v : Value) : KR w (w1.setCell p v) := fun i cs t ht hb => blk_far (h i cs t ht hb) (by have := blk_lt hb; omega) v
theorem KR.row {w w1 : World} (h : KR w w1) {g : Nat} (hp : w.heap.size ≤ g) (cs : Array Value) : KR w (w1.setRow g cs) := fun i c t ht hb => (setRow_other w1 g i cs (by have := blk_lt hb; omega)).trans (h i c t ht hb)
/-- The cells of block b behind some stores of numbers. -/
def wr (b : Nat) : List ((Nat × Nat) × Nat) → Array Value → Array Value
  | [], cs => cs
  | (p, n) :: r, cs => wr b r (if p.1 = b then cs.setIfInBounds p.2 (.int .i64 (n : Int)) else cs)
theorem wr_size (b : Nat) : ∀ (l : List ((Nat × Nat) × Nat)) (cs : Array Value), (wr b l cs).size = cs.size := by
  intro l
  induction l with
  | nil => intro cs; rfl
  | cons x t ih =>
    intro cs
    obtain ⟨p, n⟩ := x
    rw [wr, ih]
    split
    · rw [Array.size_setIfInBounds]
    · rfl
theorem wr_none (b : Nat) : ∀ (l : List ((Nat × Nat) × Nat)) (cs : Array Value), (∀ x ∈ l, x.1.1 ≠ b) → wr b l cs = cs := by
  intro l
  induction l with
  | nil => intro cs _; rfl
  | cons x t ih =>
    intro cs h
    obtain ⟨p, n⟩ := x
    rw [wr, if_neg (h (p, n) (by simp)), ih cs (fun y hy => h y (by simp [hy]))]
theorem wr_snoc (b : Nat) (x : (Nat × Nat) × Nat) : ∀ (l : List ((Nat × Nat) × Nat)) (cs : Array Value), wr b (l ++ [x]) cs = if x.1.1 = b then (wr b l cs).setIfInBounds x.1.2 (.int .i64 (x.2 : Int)) else wr b l cs := by
  intro l
  induction l with
  | nil => intro cs; obtain ⟨p, n⟩ := x; rfl
  | cons y t ih => intro cs; obtain ⟨p, n⟩ := y; rw [List.cons_append, wr, ih, wr]

def ptrs (ps : List (Nat × Nat)) : Array Value := (ps.map fun p => Value.pointer (some ⟨p.1, p.2, none⟩)).toArray

set_option maxHeartbeats 4000000 in
set_option maxRecDepth 100000 in
theorem takeCounts_calls (w0 w : World) (g a : Nat) (s : ByteArray) (ns : List Nat) (ps : List (Nat × Nat)) (r : List Nat) (h : Rd w0 w g s (ns.flatMap (vb 10) ++ r)) (hs : Sz s) (hB : Below w0.heap.size w0 w) (hn : ∀ n ∈ ns, n ≤ 2147483647) (hl : ps.length = ns.length) (hll : ps.length ≤ 1000)
    (ha : w.heap[a]? = some (.cells (ptrs ps) 231 (0, 0))) (hp : ∀ p ∈ ps, w0.heap.size ≤ p.1 ∧ ∃ cs t, t ≠ 147 ∧ t ≠ 231 ∧ w.heap[p.1]? = some (.cells cs t (0, 0)) ∧ p.2 < cs.size) :
    Calls Try.prog 139 #[.pointer (some ⟨g, 0, none⟩), .slice (some ⟨a, 0, none⟩) ps.length ps.length] w fun e w' => e = .returned (.tuple #[]) ∧ Rd w0 w' g s r ∧ Below w0.heap.size w0 w' ∧
      ∀ (b : Nat) (cs : Array Value) (t : TypeId), t ≠ 147 → w.heap[b]? = some (.cells cs t (0, 0)) → w'.heap[b]? = some (.cells (wr b (ps.zip ns) cs) t (0, 0)) := by
  have HR := Aside0.mk h
  have HB := Aside0.mk hB
  have HN := Aside0.mk hn
  have HA := Aside0.mk ha
  have HP := Aside0.mk hp
  have HL := Aside0.mk hl
  clear h hB hn ha hp hl
  go_enter Try.func139, Try.ntmps139
  go_wp2_with fail
  go_loopw [8] (fun v8 wx => ∃ k : Nat, v8 = .int .i64 (k : Int) ∧ k ≤ ps.length ∧ Aside0 (Rd w0 wx g s ((ns.drop k).flatMap (vb 10) ++ r)) ∧ Aside0 (Below w0.heap.size w0 wx) ∧ Aside0 (∀ (b : Nat) (cs : Array Value) (t : TypeId), t ≠ 147 → w.heap[b]? = some (.cells cs t (0, 0)) → wx.heap[b]? = some (.cells (wr b ((ps.zip ns).take k) cs) t (0, 0)))) (fun v8 _ => (ps.length - (intOf v8)).toNat)
  case atStart => exact ⟨0, rfl, Nat.zero_le _, HR, HB, ⟨fun b cs t _ hb => hb⟩⟩
  case round =>
    obtain ⟨k, rfl, hk, HRr, HBr, HWr⟩ := hrel
    rename World => wx
    rcases Nat.lt_or_ge k ps.length with hkl | hkg
    · have hkl1 : ((k : Int) < (ps.length : Int)) = True := eq_true (by omega)
      have hk2 : (0 : Int) ≤ (k : Int) ∧ (k : Int) < (ps.length : Int) := ⟨by omega, by omega⟩
      have hkn : k < ns.length := by have := HL.out; omega
      obtain ⟨p, hpk⟩ : ∃ p, ps[k]? = some p := ⟨_, List.getElem?_eq_getElem hkl⟩
      obtain ⟨n, hnk⟩ : ∃ n, ns[k]? = some n := ⟨_, List.getElem?_eq_getElem hkn⟩
      have hpm : p ∈ ps := List.mem_of_getElem? hpk
      have hn1 : n ≤ 2147483647 := HN.out n (List.mem_of_getElem? hnk)
      obtain ⟨hpg, cs, t, ht1, ht2, hpb, hps⟩ := HP.out p hpm
      have hax : wx.heap[a]? = some (.cells (ptrs ps) 231 (0, 0)) := by
        have h := HWr.out a _ 231 (by decide) HA.out
        rw [wr_none a _ _ ?_] at h
        · exact h
        · intro x hx hxa
          have hm : x.1 ∈ ps := (List.of_mem_zip (List.mem_of_mem_take hx)).1
          obtain ⟨_, cs', t', h1, h2, h3, _⟩ := HP.out x.1 hm
          rw [hxa, HA.out] at h3
          injection h3 with h3
          injection h3 with _ h3
          exact h2 h3.symm
      have hcp : wx.cell? ⟨a, k, none⟩ = some (.pointer (some ⟨p.1, p.2, none⟩)) := by
        refine (blk_cell hax k).trans ?_
        unfold ptrs
        rw [List.getElem?_toArray, List.getElem?_map, hpk]
        rfl
      have hzk : (ps.zip ns).take (k + 1) = (ps.zip ns).take k ++ [(p, n)] := by
        have hzl : k < (ps.zip ns).length := by rw [List.length_zip]; omega
        rw [List.take_succ_eq_append_getElem hzl]
        congr 2
        rw [List.getElem_zip]
        rw [List.getElem?_eq_getElem hkl] at hpk
        rw [List.getElem?_eq_getElem hkn] at hnk
        injection hpk with hpk
        injection hnk with hnk
        rw [hpk, hnk]
      have hdk : (ns.drop k).flatMap (vb 10) ++ r = vb 10 n ++ ((ns.drop (k + 1)).flatMap (vb 10) ++ r) := by
        rw [List.drop_eq_getElem_cons hkn, List.flatMap_cons, List.append_assoc]
        rw [List.getElem?_eq_getElem hkn] at hnk
        injection hnk with hnk
        rw [hnk]
      have HZK := Aside0.mk hzk
      have hrd := HRr.out
      rw [hdk] at hrd
      have hc := cnt_rd w0 wx g s n 2147483647 _ hrd hs HBr.out hn1 (by omega)
      have HC := Aside0.mk hc
      have HPB := Aside0.mk (HWr.out p.1 cs t ht1 hpb)
      have hps2 : p.2 < (wr p.1 ((ps.zip ns).take k) cs).size := by rw [wr_size]; exact hps
      have HPS := Aside0.mk hps2
      obtain ⟨pb, po⟩ := p
      simp only at hcp
      clear hpk hnk hpm hzk hdk hrd hc hpb hps hps2 hax
      go_wp2_with fail
      refine HC.out.mono ?_
      rintro e w2 ⟨rfl, hR2, hB2, hK2⟩
      have hKR := KR.of HRr.out hK2
      have hpb2 := hKR _ _ t ht1 HPB.out
      have hcell : w2.cell? ⟨pb, po, none⟩ = some ((wr pb ((ps.zip ns).take k) cs)[po]'HPS.out) := (blk_cell hpb2 po).trans (Array.getElem?_eq_getElem HPS.out)
      have hfz := blk_frozen hpb2 po
      have hgne : g ≠ pb := by
        rintro rfl
        obtain ⟨c, hc⟩ := hR2.blk
        rw [hc] at hpb2
        injection hpb2 with hpb2
        injection hpb2 with _ hpb2
        exact ht1 hpb2.symm
      have HR2 := Aside0.mk (hR2.far (a := ⟨pb, po, none⟩) hgne (.int .i64 (n : Int)))
      have HB2 := Aside0.mk (hB2.setCell (p := ⟨pb, po, none⟩) hpg (.int .i64 (n : Int)))
      have HKR := Aside0.mk hKR
      have hW3 : ∀ (b : Nat) (cs : Array Value) (t : TypeId), t ≠ 147 → w.heap[b]? = some (.cells cs t (0, 0)) → (w2.setCell ⟨pb, po, none⟩ (.int .i64 (n : Int))).heap[b]? = some (.cells (wr b ((ps.zip ns).take (k + 1)) cs) t (0, 0)) := by
        intro b cs t ht hb
        have h2 := hKR _ _ t ht (HWr.out b cs t ht hb)
        rw [HZK.out, wr_snoc]
        by_cases hbp : pb = b
        · subst hbp
          rw [if_pos rfl]
          exact blk_set h2 po _
        · rw [if_neg hbp]
          exact blk_far (p := ⟨pb, po, none⟩) h2 (fun h => hbp h.symm) _
      have HW3 := Aside0.mk hW3
      clear hR2 hB2 hK2 hKR hpb2 hgne hW3
      go_wp2_with fail
      go_roundw
      case rel => exact ⟨k + 1, by go_num, by omega, HR2, HB2, HW3⟩
      case measure => simp [intOf]; omega
    · obtain rfl : k = ps.length := by omega
      have hdr : ns.drop ps.length = [] := List.drop_eq_nil_of_le (by have := HL.out; omega)
      have htk : (ps.zip ns).take ps.length = ps.zip ns := List.take_of_length_le (by rw [List.length_zip]; omega)
      have h1 := HRr.out
      rw [hdr] at h1
      have h2 := HWr.out
      rw [htk] at h2
      have H1 := Aside0.mk h1
      have H2 := Aside0.mk h2
      clear hdr htk h1 h2 hkg
      go_wp2_with fail
      go_end0
      exact ⟨rfl, H1.out, HBr.out, H2.out⟩
end Go.Proofs.Ytbeefbhoccdicaa.TakeC
