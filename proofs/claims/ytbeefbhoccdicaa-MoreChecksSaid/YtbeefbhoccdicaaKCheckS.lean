/- The one program that looks at all edges: which parameters it allows: walked. -/
import Derived.Test.YtbeefbhoccdicaaKCheck
namespace Go.Proofs.Ytbeefbhoccdicaa.KCheckS
open Go.RowKit Go.Shelf Go.Proofs.YtbeefbhoccdicaaW.PrintWords Go.Proofs.YtbeefbhoccdicaaW.PrintLast Go.Proofs.YtbeefbhoccdicaaW.PrintMore Go.Proofs.Ytbeefbhoccdicaa.QGraphReads Go.Proofs.Ytbeefbhoccdicaa.WireNum Go.Proofs.Ytbeefbhoccdicaa.PutG Go.Proofs.Ytbeefbhoccdicaa.FindG Go.Proofs.Ytbeefbhoccdicaa.EdgesG Go.Proofs.Ytbeefbhoccdicaa.AllG Go.Proofs.Ytbeefbhoccdicaa.CheckG Go.Proofs.Ytbeefbhoccdicaa.SourceK Go.Proofs.Ytbeefbhoccdicaa.KCheck
attribute [local go_sem] Oper.semAt_some
set_option linter.unusedVariables false
set_option linter.unusedSimpArgs false

/-- An edge lies below nought. -/
def Neg (l : List (Int × S67)) : Prop := ∃ x ∈ l, x.2.f1 < 0

theorem neg_pre {l m : List (Int × S67)} (h : Neg l) (hp : l <+: m) : Neg m := by
  obtain ⟨x, hx, h0⟩ := h
  exact ⟨x, hp.subset hx, h0⟩
theorem own_p {β : Type} {B : Nat} {I : β → World → Prop} (p : β → Prop) (h : OwnFrom B I) : OwnFrom B (fun s W => p s ∧ I s W) := fun s W W' row hs hg hr => ⟨hs.1, h s W W' row hs.2 hg hr⟩
theorem ax_own {B : Nat} (a' : Act) (f : Nat → Act) (cs : Array Value) (n0 : Nat) : OwnFrom B (fun (_ : Unit) (W : World) => ∃ g : Nat, n0 ≤ g ∧ a' = f g ∧ W.heap[g]? = some (.cells cs 67 (0, 0))) := by
  rintro s W W' row ⟨g, h0, h1, h2⟩ hgr hrow
  exact ⟨g, h0, h1, ((blk_own g 67 (fun _ : Unit => cs)).from B) s W W' row h2 hgr hrow⟩

set_option maxRecDepth 100000 in
set_option maxHeartbeats 8000000 in
theorem sssp_in (F : Fence) (n : Nat) (h52 : F.fn 52) (h39 : F.fn 39) (h91 : F.fn 91) (h58 : F.fn 58) (hro : F.round = none) (hn3 : 3 ≤ n) (w : World) (s : ByteArray) (L : List S53) (A : Option Addr) (c : Nat) (p : List Int) (B : Option Addr) (cb : Nat) (hr : Kd.C k53 w A L.length L) (r0 : Int)
    (hsrc : ∀ W, Below w.heap.size w W → CallsIn F (n - 1) Try.prog 58 #[.agg #[.slice A L.length c], .slice B p.length cb] W fun e W' => e = .returned (.int .i64 r0) ∧ Below W.heap.size W W')
    (g_bfs : (s.toList == ([98, 102, 115] : List UInt8)) = false) (g_sssp : (s.toList == ([115, 115, 115, 112] : List UInt8)) = true) :
    CallsIn F n Try.prog 52 #[.string s, .agg #[.slice A L.length c], .slice B p.length cb] w fun e w' => (∃ r, e = .returned (.int .i64 r) ∧ ((Neg (allOf L) ∧ r = 71) ∨ (¬ Neg (allOf L) ∧ r = r0))) ∧ Below w.heap.size w w' := by
  have h1 : 1 ≤ n := by omega
  have HR := Aside0.mk hr
  have HS := Aside0.mk hsrc
  clear hr hsrc
  refine callsIn_of_wp_marks Try.func52 rfl h52 ?_ hro
  simp only [Try.ntmps52, List.size_toArray, List.length_cons, List.length_nil, Nat.reduceAdd, Nat.reduceSub, Array.replicate_succ, Array.replicate_zero, List.push_toArray, List.append_toArray, List.nil_append, List.cons_append]
  gi_wp2_with (gi_at_call 39; refine (all_in F (n - 1) h39 hro _ _ _ _).mono ?_; rintro e w' ⟨rfl, rfl⟩)
  have hb1 : Below w.heap.size w ((w.alloc (.cells #[.slice A L.length c] 24)).alloc (.cells #[.int .i64 0] 25)) := below_alloc (below_alloc (Below.refl _ _) _) _
  have hbs := blk_new ((w.alloc (.cells #[.slice A L.length c] 24)).alloc (.cells #[.int .i64 0] 25)) (.cells #[.slice A L.length c] 24)
  have hbn := blk_alloc (blk_new (w.alloc (.cells #[.slice A L.length c] 24)) (.cells #[.int .i64 0] 25)) (.cells #[.slice A L.length c] 24)
  have hbg := blk_alloc (blk_alloc (blk_new w (.cells #[.slice A L.length c] 24)) (.cells #[.int .i64 0] 25)) (.cells #[.slice A L.length c] 24)
  rw [World.size_alloc, World.size_alloc] at hbs
  rw [World.size_alloc] at hbn
  refine wpIn_rangeFunc_ownH hro h1 (gf := 91) (lb := #[.pointer (some ⟨w.heap.size + 1 + 1, 0, none⟩)]) rfl h91 (enters_of Try.func91 (by kernel_rfl) rfl)
    (all_stops F (n - 1) h91 hro (by omega) (w.heap.size + 1 + 1) w _ L A c HR.out (hb1.alloc hb1.size _) ((blk_cell hbs 0).trans rfl)) kpT_t (kpT_b (by simp; omega)) (Below.refl _ _) (fun _ => rfl)
    (fun pre W => (¬ Neg pre) ∧ (W.heap[w.heap.size + 1]? = some (.cells #[.int .i64 0] 25 (0, 0)) ∧ W.heap[w.heap.size]? = some (.cells #[.slice A L.length c] 24 (0, 0)) ∧ Below w.heap.size w W))
    (fun c pre W => (c = .ret ∧ Neg pre) ∧ (W.heap[w.heap.size + 1]? = some (.cells #[.int .i64 71] 25 (0, 0)) ∧ Below w.heap.size w W))
    (own_p _ (OwnFrom.and ((blk_own _ _ _).from _) (OwnFrom.and ((blk_own _ _ _).from _) (ownFrom_below (Nat.le_refl _) (by simp; omega)))))
    (fun c => own_p _ (OwnFrom.and ((blk_own _ _ _).from _) (ownFrom_below (Nat.le_refl _) (by simp; omega))))
    ⟨fun h => (by obtain ⟨x, hx, _⟩ := h; cases hx), hbn, hbg, hb1.alloc hb1.size _⟩
    (fun x a' W => ∃ g : Nat, w.heap.size ≤ g ∧ a' = (fun g : Nat => ({ tmps := #[.string s, .agg #[.slice A L.length c], .slice B p.length cb, undef, .pointer (some ⟨w.heap.size, 0, none⟩), undef, .pointer (some ⟨w.heap.size + 1, 0, none⟩), undef, .pointer (some ⟨g, 0, none⟩), .string s, .bool false, .bool false, undef, undef, undef, .bool true, .bool true, .agg #[.slice A L.length c], .func (.func 91) #[] #[.pointer (some ⟨w.heap.size + 1 + 1, 0, none⟩)], .int .i64 x.1, .agg #[.int .i64 x.2.f0, .int .i64 x.2.f1], undef, undef, undef, undef, undef, undef, undef, undef, undef, undef, undef, undef, undef, undef, undef], defers := [] } : Act)) g ∧ W.heap[g]? = some (.cells #[.int .i64 x.2.f0, .int .i64 x.2.f1] 67 (0, 0)))
    (fun x a' => ax_own a' _ _ _) ?assign ?body ?done ?stop
  case assign =>
    intro l pre x W K hI hK
    have HK := Aside0.mk (hK _ (W.alloc (.cells #[.int .i64 x.2.f0, .int .i64 x.2.f1] 67)) ((KeepsOthers.alloc _ _).from _) (kpT_alloc hI.2.2.2.size _) ⟨hI.1, blk_alloc hI.2.1 _, blk_alloc hI.2.2.1 _, below_alloc hI.2.2.2 _⟩ ⟨W.heap.size, hI.2.2.2.size, rfl, blk_new W _⟩)
    clear hK
    simp only [encE, List.zip_toArray, List.zip_cons_cons, List.zip_nil_left, List.zip_nil_right, List.size_toArray, List.foldl_toArray', List.foldl_toArray, List.foldl_cons, List.foldl_nil, List.setIfInBounds_toArray, List.set_cons_zero, List.set_cons_succ]
    gi_wp2
    exact HK.out
  case body =>
    rintro l pre x a' W hl hrec ⟨hneg, hbk, hbg, hB⟩ ⟨g, hg0, rfl, hgx⟩ hN
    have hcx : W.cell? ⟨g, 1, none⟩ = some (.int .i64 x.2.f1) := (blk_cell hgx 1).trans rfl
    have hcb : W.cell? ⟨w.heap.size + 1, 0, none⟩ = some (.int .i64 0) := (blk_cell hbk 0).trans rfl
    have hfb := blk_frozen hbk 0
    have HBK := Aside0.mk hbk
    have HBG := Aside0.mk hbg
    have HB := Aside0.mk hB
    have HN := Aside0.mk hneg
    have HG := Aside0.mk hgx
    clear hbk hbg hB hneg hgx hrec hN
    by_cases hx : x.2.f1 < 0
    · have HXX := Aside0.mk hx
      have hx1 : decide (x.2.f1 < 0) = true := decide_eq_true hx
      clear hx
      gi_wp2
      exact ⟨(KeepsOthers.setCell _ _ _).from _, ⟨rfl, ⟨x, by simp, HXX.out⟩⟩, blk_set HBK.out 0 _, HB.out.setCell (p := ⟨w.heap.size + 1, 0, none⟩) (by simp) _⟩
    · have HXX := Aside0.mk hx
      have hx1 : decide (x.2.f1 < 0) = false := decide_eq_false hx
      clear hx
      gi_wp2
      refine ⟨(KeepsOthers.refl _).from _, ⟨Below.refl _ _, fun _ _ _ _ h => h⟩, ?_, HBK.out, HBG.out, HB.out⟩
      rintro ⟨y, hy, hy0⟩
      rcases List.mem_append.1 hy with h | h
      · exact HN.out ⟨y, h, hy0⟩
      · simp only [List.mem_cons, List.not_mem_nil, or_false] at h
        subst h
        exact absurd hy0 (by have := HXX.out; omega)
  case done =>
    rintro D ys W hD rfl ⟨hneg, hbk, hbg, hB⟩ hK
    have hcg : W.cell? ⟨w.heap.size, 0, none⟩ = some (.slice A L.length c) := (blk_cell hbg 0).trans rfl
    have HBK := Aside0.mk hbk
    have HB := Aside0.mk hB
    have HN := Aside0.mk hneg
    have HKK := Aside0.mk hK
    clear hbk hbg hB hneg hK
    gi_wp2_with (gi_at_call 58; refine (HS.out W HB.out).mono ?_; rintro e W3 ⟨rfl, hb3⟩; have HB3 := Aside0.mk (below_then HB.out HB.out.size hb3); have HY3 := Aside0.mk (blk_below HBK.out hb3); have hcy : W3.cell? ⟨w.heap.size + 1, 0, none⟩ = some (.int .i64 0) := (blk_cell HY3.out 0).trans rfl; have hfy := blk_frozen HY3.out 0; have HK3 := Aside0.mk ((hb3.block D (Array.getElem?_eq_some_iff.1 HKK.out).1).trans HKK.out); clear hb3)
    have hK4 : (W3.setCell ⟨w.heap.size + 1, 0, none⟩ (.int .i64 r0)).heap[D]? = some (.deferred (some [])) := (Below.heap_setCell W3 _ _ D (by simp at hD; show D ≠ w.heap.size + 1; omega)).trans HK3.out
    have hDb : D ≠ w.heap.size + 1 := by simp at hD; omega
    refine ⟨by simp, .inl ⟨_, _, rfl, run_takeDeferred (hK4), ?_⟩⟩
    refine ⟨_, results_cell_one rfl _ _ (w.heap.size + 1) r0 rfl (by rw [World.cell?, World.putObj_heap_other hDb.symm]; exact (blk_cell (blk_set HY3.out 0 (.int .i64 r0)) 0).trans rfl), ⟨r0, rfl, .inr ⟨HN.out, rfl⟩⟩, ?_⟩
    exact (below_set HB3.out (Nat.le_succ _)).trans (belowK_b (w := w) (Nat.le_refl _) _ D _ _ (by simp at hD; omega) (hK4) rfl rfl)
  case stop =>
    rintro D c pre W hD hpre ⟨⟨rfl, hneg⟩, hbk, hB⟩ hK
    have HBK := Aside0.mk hbk
    have HB := Aside0.mk hB
    have HN := Aside0.mk hneg
    have HKK := Aside0.mk hK
    clear hbk hB hneg hK
    gi_wp2
    have hDb : D ≠ w.heap.size + 1 := by simp at hD; omega
    refine ⟨by simp, .inl ⟨_, _, rfl, run_takeDeferred (HKK.out), ?_⟩⟩
    refine ⟨_, results_cell_one rfl _ _ (w.heap.size + 1) 71 rfl (by rw [World.cell?, World.putObj_heap_other hDb.symm]; exact (blk_cell HBK.out 0).trans rfl), ⟨71, rfl, .inl ⟨neg_pre HN.out hpre, rfl⟩⟩, ?_⟩
    exact (HB.out).trans (belowK_b (w := w) (Nat.le_refl _) _ D _ _ (by simp at hD; omega) (HKK.out) rfl rfl)
end Go.Proofs.Ytbeefbhoccdicaa.KCheckS
