/- A graph goes there and back: the law's own example. -/
import Derived.Test.YtbeefbhoccdicaaPlainG
namespace Go.Proofs.Ytbeefbhoccdicaa.AwakeG
open Go.RowKit Go.Shelf Go.Proofs.YtbeefbhoccdicaaW.PrintWords Go.Proofs.YtbeefbhoccdicaaW.PrintLast Go.Proofs.YtbeefbhoccdicaaW.PrintMore Go.Proofs.Ytbeefbhoccdicaa.QGraphReads Go.Proofs.Ytbeefbhoccdicaa.PlainV Go.Proofs.Ytbeefbhoccdicaa.WireNum Go.Proofs.Ytbeefbhoccdicaa.WireRead Go.Proofs.Ytbeefbhoccdicaa.Writer Go.Proofs.Ytbeefbhoccdicaa.PutG Go.Proofs.Ytbeefbhoccdicaa.FindG Go.Proofs.Ytbeefbhoccdicaa.EdgesG Go.Proofs.Ytbeefbhoccdicaa.AllG Go.Proofs.Ytbeefbhoccdicaa.CheckG Go.Proofs.Ytbeefbhoccdicaa.EncG Go.Proofs.Ytbeefbhoccdicaa.SameG Go.Proofs.Ytbeefbhoccdicaa.RdSpec Go.Proofs.Ytbeefbhoccdicaa.TakeG Go.Proofs.Ytbeefbhoccdicaa.DecG Go.Proofs.Ytbeefbhoccdicaa.PlainG
set_option linter.unusedVariables false

/-- No vertex of a checked graph has more edges. -/
theorem edges_le (l : List S53) (v : S53) (h : v ∈ l) : v.f2.length ≤ (allOf l).length := by
  rw [allOf_length]
  induction l with
  | nil => cases h
  | cons a t ih =>
    rw [List.foldr_cons]
    rcases List.mem_cons.1 h with rfl | h
    · omega
    · have := ih h; omega
theorem checked {l : List S53} (h : Checks l 0) (hs : (allOf l).length ≤ 9223372036854775807) : l.length ≤ 256 ∧ Grows l ∧ (allOf l).length ≤ 2048 ∧ AllOk l := by
  unfold Checks at h
  rcases h with ⟨_, h⟩ | ⟨_, _, h⟩ | ⟨_, _, _, h⟩ | ⟨_, _, _, _, h⟩ | ⟨h1, h2, h3, h4, _⟩
  · cases h
  · cases h
  · cases h
  · cases h
  · exact ⟨h1, h2, by rw [wrap64] at h3; omega, h4⟩
theorem graph_size (l : List S53) (h1 : l.length ≤ 256) (h2 : (allOf l).length ≤ 2048) : Sz (graphBytes l) ∧ (graphBytes l).size = (lG l).length := by
  have h := putVerts_size l (⟨#[]⟩ ++ numStr l.length)
  have h3 := numStr_size l.length
  rw [need_all, ByteArray.size_append] at h
  have h4 : (⟨#[]⟩ : ByteArray).size = 0 := rfl
  refine ⟨by show (putVerts (⟨#[]⟩ ++ numStr l.length) l).size ≤ _; omega, ?_⟩
  rw [← bs_graph, bs_length]

/-- What was encoded is decoded again. -/
theorem dec_enc {l : List S53} (h : Checks l 0) (hs : (allOf l).length ≤ 9223372036854775807) (hv : ∀ v ∈ l, VertIn v) {x : Int} (hx : Decs (graphBytes l) x) : x = 0 ∧ decL (graphBytes l) = l := by
  obtain ⟨h1, h2, h3, h4⟩ := checked h hs
  obtain ⟨hz, hsz⟩ := graph_size l h1 h3
  have ht := take_at (graphBytes l) l 0 [] (by rw [List.drop_zero, bs_graph, List.append_nil]) (fun v hm => ⟨hv v hm, by have := edges_le l v hm; omega⟩) h1
  have hd : decL (graphBytes l) = l := by
    unfold decL
    rw [ht]
    exact map_raw l
  refine ⟨?_, hd⟩
  obtain ⟨r, hr, rfl⟩ := hx
  rw [hd, ht] at hr
  rw [ht]
  simp only at hr ⊢
  have hr0 : r = 0 := by
    rcases hr with ⟨_, hr⟩ | ⟨hn, _⟩
    · exact hr.one h
    · exact absurd rfl hn
  unfold endE
  rw [if_neg (by rw [hsz]; omega), hr0]

/-- The example. -/
def G0 : List S53 := [⟨1, 0, [⟨2, 5⟩]⟩, ⟨2, 0, []⟩]
theorem g0_grows : Grows G0 := by
  intro m hm
  have : m = 0 := by have h : G0.length = 2 := rfl; omega
  subst this
  decide
theorem g0_checks : Checks G0 0 := by
  refine .inr (.inr (.inr (.inr ⟨by decide, g0_grows, (by rw [show (allOf G0).length = 1 from rfl]; unfold wrap64; omega), ?_, rfl⟩)))
  intro m hm
  have h : G0.length = 2 := rfl
  have hm2 : m = 0 ∨ m = 1 := by omega
  rcases hm2 with rfl | rfl
  · intro k hk
    have hk2 : k = 0 := by have h2 : (G0.getD 0 z53).f2.length = 1 := rfl; omega
    subst hk2
    decide
  · intro k hk
    have h2 : (G0.getD 1 z53).f2.length = 0 := rfl
    omega
theorem g0_in : ∀ v ∈ G0, VertIn v := by
  intro v hv
  unfold G0 at hv
  simp only [List.mem_cons, List.not_mem_nil, or_false] at hv
  rcases hv with rfl | rfl
  · refine ⟨by unfold In; decide, by unfold In; decide, ?_⟩
    intro e he
    simp only [List.mem_cons, List.not_mem_nil, or_false] at he
    subst he
    exact ⟨by unfold In; decide, by unfold In; decide⟩
  · refine ⟨by unfold In; decide, by unfold In; decide, ?_⟩
    intro e he
    cases he

/-- A row of one, two elements. -/
theorem c67_one (w : World) (b : Nat) (x : S67) (h : w.heap[b]? = some (.cells #[.int .i64 x.f0, .int .i64 x.f1] 67 (0, 0))) : Kd.C k67 w (some ⟨b, 0, none⟩) 1 [x] := by
  refine ⟨rfl, by decide, fun _ => ⟨_, rfl, ?_⟩⟩
  intro j p hj
  have hj0 : j = 0 := by
    have := (List.getElem?_eq_some_iff.1 hj).1
    simp at this
    exact this
  subst hj0
  have hp : x = p := by simpa using hj
  subst hp
  refine ⟨_, rfl, k67_mk w x, ?_⟩
  intro i u hi
  have hlt := (List.getElem?_eq_some_iff.1 hi).1
  have h2 : i = 0 ∨ i = 1 := by simp at hlt; omega
  rcases h2 with rfl | rfl
  · exact (blk_cell h 0).trans (by simpa using hi)
  · exact (blk_cell h 1).trans (by simpa using hi)
theorem c53_g0 (w : World) (b c : Nat) (hb : w.heap[b]? = some (.cells #[.int .i64 2, .int .i64 5] 67 (0, 0))) (hc : w.heap[c]? = some (.cells #[.int .i64 1, .int .i64 0, .slice (some ⟨b, 0, none⟩) 1 1, .int .i64 2, .int .i64 0, .slice none 0 0] 53 (0, 0))) :
    Kd.C k53 w (some ⟨c, 0, none⟩) 2 G0 := by
  refine ⟨rfl, by decide, fun _ => ⟨_, rfl, ?_⟩⟩
  intro j p hj
  have hj0 : j = 0 ∨ j = 1 := by
    have h : j < G0.length := (List.getElem?_eq_some_iff.1 hj).1
    have : G0.length = 2 := rfl
    omega
  rcases hj0 with rfl | rfl
  · have hp : (⟨1, 0, [⟨2, 5⟩]⟩ : S53) = p := by simpa [G0] using hj
    subst hp
    refine ⟨_, rfl, k53_mk w _ (A2 := some ⟨b, 0, none⟩) (c2 := 1) (by decide) (c67_one w b ⟨2, 5⟩ hb), ?_⟩
    intro i u hi
    have hlt := (List.getElem?_eq_some_iff.1 hi).1
    have h2 : i = 0 ∨ i = 1 ∨ i = 2 := by simp at hlt; omega
    rcases h2 with rfl | rfl | rfl
    · exact (blk_cell hc 0).trans (by simpa using hi)
    · exact (blk_cell hc 1).trans (by simpa using hi)
    · exact (blk_cell hc 2).trans (by simpa using hi)
  · have hp : (⟨2, 0, []⟩ : S53) = p := by simpa [G0] using hj
    subst hp
    refine ⟨_, rfl, k53_mk w _ (A2 := none) (c2 := 0) (by decide) (Kd.C_nil _ _), ?_⟩
    intro i u hi
    have hlt := (List.getElem?_eq_some_iff.1 hi).1
    have h2 : i = 0 ∨ i = 1 ∨ i = 2 := by simp at hlt; omega
    rcases h2 with rfl | rfl | rfl
    · exact (blk_cell hc 3).trans (by simpa using hi)
    · exact (blk_cell hc 4).trans (by simpa using hi)
    · exact (blk_cell hc 5).trans (by simpa using hi)

set_option maxHeartbeats 4000000 in
set_option maxRecDepth 100000 in
theorem awake_calls (w : World) : Calls Try.prog 17 #[] w fun e w' => e = .returned (.bool true) ∧ Below w.heap.size w w' := by
  go_enter Try.func17, Try.ntmps17
  go_wp2_with fail
  have hb := below_alloc (below_alloc (below_alloc (Below.refl _ w) (.cells #[.int .i64 2, .int .i64 5] 67)) (.cells #[.int .i64 1, .int .i64 0, .slice (some ⟨w.heap.size, 0, none⟩) 1 1, .int .i64 2, .int .i64 0, .slice none 0 0] 53)) (.cells #[.slice (some ⟨w.heap.size + 1, 0, none⟩) 2 2] 24)
  have h1 := blk_alloc (blk_alloc (blk_new w (.cells #[.int .i64 2, .int .i64 5] 67)) (.cells #[.int .i64 1, .int .i64 0, .slice (some ⟨w.heap.size, 0, none⟩) 1 1, .int .i64 2, .int .i64 0, .slice none 0 0] 53)) (.cells #[.slice (some ⟨w.heap.size + 1, 0, none⟩) 2 2] 24)
  have h2 := blk_alloc (blk_new (w.alloc (.cells #[.int .i64 2, .int .i64 5] 67)) (.cells #[.int .i64 1, .int .i64 0, .slice (some ⟨w.heap.size, 0, none⟩) 1 1, .int .i64 2, .int .i64 0, .slice none 0 0] 53)) (.cells #[.slice (some ⟨w.heap.size + 1, 0, none⟩) 2 2] 24)
  have h3 := blk_new ((w.alloc (.cells #[.int .i64 2, .int .i64 5] 67)).alloc (.cells #[.int .i64 1, .int .i64 0, .slice (some ⟨w.heap.size, 0, none⟩) 1 1, .int .i64 2, .int .i64 0, .slice none 0 0] 53)) (.cells #[.slice (some ⟨w.heap.size + 1, 0, none⟩) 2 2] 24)
  rw [World.size_alloc] at h2
  rw [World.size_alloc, World.size_alloc] at h3
  generalize ((w.alloc (.cells #[.int .i64 2, .int .i64 5] 67)).alloc (.cells #[.int .i64 1, .int .i64 0, .slice (some ⟨w.heap.size, 0, none⟩) 1 1, .int .i64 2, .int .i64 0, .slice none 0 0] 53)).alloc (.cells #[.slice (some ⟨w.heap.size + 1, 0, none⟩) 2 2] 24) = w1 at hb h1 h2 h3 ⊢
  have HC := Aside0.mk (c53_g0 w1 _ _ h1 h2)
  have H3 := Aside0.mk h3
  have HB := Aside0.mk hb
  clear hb h1 h2 h3
  refine (encode_calls w1 G0 (some ⟨w.heap.size + 1, 0, none⟩) 2 0 HC.out g0_in g0_checks (fun _ => by decide)).mono ?_
  rw [if_pos rfl]
  rintro e w2 ⟨rfl, hb2⟩
  have hc2 : w2.cell? ⟨w.heap.size + 1 + 1, 0, none⟩ = some (.slice (some ⟨w.heap.size + 1, 0, none⟩) 2 2) := (blk_cell (blk_below H3.out hb2) 0).trans rfl
  have HC2 := Aside0.mk (Kd.C_below HC.out hb2)
  have HX2 := Aside0.mk (blk_below H3.out hb2)
  have HB2 := Aside0.mk (below_then HB.out HB.out.size hb2)
  clear hb2
  obtain ⟨hz, hsz⟩ := graph_size G0 (by decide) (by decide)
  have hde := fun x => dec_enc (x := x) g0_checks (by decide) g0_in
  generalize graphBytes G0 = gs at *
  go_wp2_with fail
  refine (decode_calls w2 gs hz).mono ?_
  rintro e w3 ⟨⟨v, x, rfl, hx, hS⟩, hb3⟩
  obtain ⟨hx0, hd⟩ := hde x hx
  subst hx0
  rw [if_pos rfl, hd] at hS
  obtain ⟨A, c, hA, hcl, hC⟩ := Kd.S_reads hS
  subst hA
  have hc3 : w3.cell? ⟨w.heap.size + 1 + 1, 0, none⟩ = some (.slice (some ⟨w.heap.size + 1, 0, none⟩) 2 2) := (blk_cell (blk_below HX2.out hb3) 0).trans rfl
  have hl3 : w.heap.size + 1 + 1 < w3.heap.size := blk_lt (blk_below HX2.out hb3)
  have hne3 : (w.heap.size + 1 + 1 = w3.heap.size) = False := eq_false (by omega)
  have HC3 := Aside0.mk (Kd.C_below HC2.out hb3)
  have HD3 := Aside0.mk hC
  have HB3 := Aside0.mk (below_then HB2.out HB2.out.size hb3)
  clear hb3 hS hC hx hd hde hc2
  go_wp2_with fail
  refine (same_calls _ G0 G0 (some ⟨w.heap.size + 1, 0, none⟩) A 2 c (Kd.C_alloc HC3.out _) (Kd.C_alloc HD3.out _)).mono ?_
  rintro e w4 ⟨⟨b, rfl, hT⟩, hb4⟩
  have hbt : b = true := hT.2 rfl
  subst hbt
  have hc4 : w4.cell? ⟨w3.heap.size, 0, none⟩ = some (.slice A G0.length c) := (blk_cell (blk_below (blk_new w3 (.cells #[.slice A G0.length c] 24)) hb4) 0).trans rfl
  have HD4 := Aside0.mk (Kd.C_below (Kd.C_alloc HD3.out _) hb4)
  have HB4 := Aside0.mk (below_then (below_alloc HB3.out _) (by have := HB3.out.size; rw [World.size_alloc]; omega) hb4)
  clear hb4 hT
  go_wp2_with fail
  refine (edgesN_calls w4 G0 A c HD4.out).mono ?_
  rintro e w5 ⟨rfl, hb5⟩
  have h1 : wrap64 ((allOf G0).length : Int) = 1 := by rw [show (allOf G0).length = 1 from rfl]; unfold wrap64; omega
  have HB5 := Aside0.mk (below_then HB4.out HB4.out.size hb5)
  clear hb5
  rw [h1]
  go_wp2_with fail
  go_ret
  exact ⟨by first | rfl | simp, HB5.out⟩
end Go.Proofs.Ytbeefbhoccdicaa.AwakeG
