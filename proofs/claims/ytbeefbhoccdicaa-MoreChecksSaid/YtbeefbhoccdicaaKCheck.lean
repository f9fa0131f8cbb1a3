/- Which parameters a program of layer 7 allows: walked. -/
import Derived.Test.YtbeefbhoccdicaaSourceK
import Derived.Test.YtbeefbhoccdicaaCheckG
import Derived.Test.YtbeefbhoccdicaaQKernx5
namespace Go.Proofs.Ytbeefbhoccdicaa.KCheck
open Go.RowKit Go.Shelf Go.Proofs.YtbeefbhoccdicaaW.PrintWords Go.Proofs.YtbeefbhoccdicaaW.PrintLast Go.Proofs.YtbeefbhoccdicaaW.PrintMore Go.Proofs.Ytbeefbhoccdicaa.QGraphReads Go.Proofs.Ytbeefbhoccdicaa.WireNum Go.Proofs.Ytbeefbhoccdicaa.PutG Go.Proofs.Ytbeefbhoccdicaa.FindG Go.Proofs.Ytbeefbhoccdicaa.EdgesG Go.Proofs.Ytbeefbhoccdicaa.AllG Go.Proofs.Ytbeefbhoccdicaa.CheckG Go.Proofs.Ytbeefbhoccdicaa.SourceK
set_option linter.unusedVariables false
set_option linter.unusedSimpArgs false

def turnsR (p : List Int) : Int := if p.length = 1 then (if rd p 0 < 0 then 71 else (if rd p 0 > 100 then 71 else 0)) else 71
def noneR (p : List Int) : Int := if p.length = 0 then 0 else 71
theorem results_cell_one {fn : Func} {q : Tmp} (h : fn.results = #[.cell q 25]) (tmps : Array Value) (w : World) (g : Nat) (n : Int)
    (hp : tmps.getD q undef = .pointer (some ⟨g, 0, none⟩)) (hc : w.cell? ⟨g, 0, none⟩ = some (.int .i64 n)) :
    (results fn tmps).run Try.prog w = .ok (.int .i64 n) w := by
  have hp' : tmps[q]?.getD undef = .pointer (some ⟨g, 0, none⟩) := by simpa using hp
  have hu := Try.underlying25
  simp only [results, h]
  go_simp
theorem turns_f (p : List Int) : kern_Turns.f p = some (turnsR p) := by
  unfold kern_Turns.f turnsR
  by_cases h : p.length = 1
  · rw [if_pos (by omega), if_pos (by omega), if_pos h]
    by_cases h1 : rd p 0 < 0
    · rw [if_pos h1, if_pos h1]
    · rw [if_neg h1, if_neg h1]
      by_cases h2 : rd p 0 > 100
      · rw [if_pos h2, if_pos h2]
      · rw [if_neg h2, if_neg h2]
  · rw [if_neg (by omega), if_neg h]
theorem none_f (p : List Int) : kern_None.f p = some (noneR p) := by
  unfold kern_None.f noneR
  by_cases h : p.length = 0
  · rw [if_pos (by omega), if_pos h]
  · rw [if_neg (by omega), if_neg h]

set_option maxHeartbeats 4000000 in
set_option maxRecDepth 100000 in
theorem bfs_calls (w : World) (s : ByteArray) (L : List S53) (A : Option Addr) (c : Nat) (p : List Int) (B : Option Addr) (cb : Nat) (hr : Kd.C k53 w A L.length L) (hp : Kd.C (Kd.int .i64) w B p.length p) (hcb : p.length ≤ cb) (hg : Grows L) (hn : L.length ≤ 256) (h_bfs : s.toList = ([98, 102, 115] : List UInt8)) :
    Calls Try.prog 52 #[.string s, .agg #[.slice A L.length c], .slice B p.length cb] w fun e w' => e = .returned (.int .i64 (srcR L p)) ∧ Below w.heap.size w w' := by
  have g_bfs : (s.toList == ([98, 102, 115] : List UInt8)) = true := beq_iff_eq.mpr h_bfs
  clear h_bfs
  have HX := Aside0.mk (blk_alloc (blk_new w (.cells #[.slice A L.length c] 24)) (.cells #[.int .i64 0] 25))
  have HY := Aside0.mk (blk_new (w.alloc (.cells #[.slice A L.length c] 24)) (.cells #[.int .i64 0] 25))
  have HB := Aside0.mk (below_alloc (below_alloc (Below.refl w.heap.size w) (.cells #[.slice A L.length c] 24)) (.cells #[.int .i64 0] 25))
  rw [World.size_alloc] at HY
  generalize hw2 : ((w.alloc (.cells #[.slice A L.length c] 24)).alloc (.cells #[.int .i64 0] 25)) = w2 at HX HY HB
  have HR := Aside0.mk (Kd.C_below hr HB.out)
  have HP := Aside0.mk (Kd.C_below hp HB.out)
  have hc2 : w2.cell? ⟨w.heap.size, 0, none⟩ = some (.slice A L.length c) := (blk_cell HX.out 0).trans rfl
  have hcy0 : w2.cell? ⟨w.heap.size + 1, 0, none⟩ = some (.int .i64 0) := (blk_cell HY.out 0).trans rfl
  have hfy0 := blk_frozen HY.out 0
  clear hr hp
  go_enter Try.func52, Try.ntmps52
  go_wp2_with fail
  refine (source_calls w2 L A c p B cb HR.out HP.out hg hn).mono ?_
  rintro e w3 ⟨rfl, hb3⟩
  have HB3 := Aside0.mk (below_then HB.out HB.out.size hb3)
  have HY3 := Aside0.mk (blk_below HY.out hb3)
  have hcy : w3.cell? ⟨w.heap.size + 1, 0, none⟩ = some (.int .i64 0) := (blk_cell HY3.out 0).trans rfl
  have hfy := blk_frozen HY3.out 0
  clear hb3 hw2
  go_wp2_with fail
  refine bodyPost_ret (v := .int .i64 (srcR L p)) (results_cell_one rfl _ _ (w.heap.size + 1) _ rfl ((blk_cell (blk_set HY3.out 0 _) 0).trans rfl)) rfl ?_
  exact ⟨rfl, below_set HB3.out (Nat.le_succ _)⟩

set_option maxHeartbeats 4000000 in
set_option maxRecDepth 100000 in
theorem pagerank_calls (w : World) (s : ByteArray) (L : List S53) (A : Option Addr) (c : Nat) (p : List Int) (B : Option Addr) (cb : Nat) (hr : Kd.C k53 w A L.length L) (hp : Kd.C (Kd.int .i64) w B p.length p) (hcb : p.length ≤ cb) (hg : Grows L) (hn : L.length ≤ 256) (h_bfs : s.toList ≠ ([98, 102, 115] : List UInt8)) (h_sssp : s.toList ≠ ([115, 115, 115, 112] : List UInt8)) (h_pagerank : s.toList = ([112, 97, 103, 101, 114, 97, 110, 107] : List UInt8)) :
    Calls Try.prog 52 #[.string s, .agg #[.slice A L.length c], .slice B p.length cb] w fun e w' => e = .returned (.int .i64 (turnsR p)) ∧ Below w.heap.size w w' := by
  have g_bfs : (s.toList == ([98, 102, 115] : List UInt8)) = false := beq_eq_false_iff_ne.mpr h_bfs
  have g_sssp : (s.toList == ([115, 115, 115, 112] : List UInt8)) = false := beq_eq_false_iff_ne.mpr h_sssp
  have g_pagerank : (s.toList == ([112, 97, 103, 101, 114, 97, 110, 107] : List UInt8)) = true := beq_iff_eq.mpr h_pagerank
  clear h_bfs h_sssp h_pagerank
  have HX := Aside0.mk (blk_alloc (blk_new w (.cells #[.slice A L.length c] 24)) (.cells #[.int .i64 0] 25))
  have HY := Aside0.mk (blk_new (w.alloc (.cells #[.slice A L.length c] 24)) (.cells #[.int .i64 0] 25))
  have HB := Aside0.mk (below_alloc (below_alloc (Below.refl w.heap.size w) (.cells #[.slice A L.length c] 24)) (.cells #[.int .i64 0] 25))
  rw [World.size_alloc] at HY
  generalize hw2 : ((w.alloc (.cells #[.slice A L.length c] 24)).alloc (.cells #[.int .i64 0] 25)) = w2 at HX HY HB
  have HR := Aside0.mk (Kd.C_below hr HB.out)
  have HP := Aside0.mk (Kd.C_below hp HB.out)
  have hc2 : w2.cell? ⟨w.heap.size, 0, none⟩ = some (.slice A L.length c) := (blk_cell HX.out 0).trans rfl
  have hcy0 : w2.cell? ⟨w.heap.size + 1, 0, none⟩ = some (.int .i64 0) := (blk_cell HY.out 0).trans rfl
  have hfy0 := blk_frozen HY.out 0
  clear hr hp
  go_enter Try.func52, Try.ntmps52
  go_wp2_with fail
  refine (kern_Turns.calls B cb p (turnsR p) w2 HP.out hcb (turns_f p)).mono ?_
  rintro e w3 ⟨rfl, hb3⟩
  have HB3 := Aside0.mk (below_then HB.out HB.out.size hb3.below)
  have HY3 := Aside0.mk (blk_below HY.out hb3.below)
  have hcy : w3.cell? ⟨w.heap.size + 1, 0, none⟩ = some (.int .i64 0) := (blk_cell HY3.out 0).trans rfl
  have hfy := blk_frozen HY3.out 0
  clear hb3 hw2
  go_wp2_with fail
  refine bodyPost_ret (v := .int .i64 (turnsR p)) (results_cell_one rfl _ _ (w.heap.size + 1) _ rfl ((blk_cell (blk_set HY3.out 0 _) 0).trans rfl)) rfl ?_
  exact ⟨rfl, below_set HB3.out (Nat.le_succ _)⟩

set_option maxHeartbeats 4000000 in
set_option maxRecDepth 100000 in
theorem degree_calls (w : World) (s : ByteArray) (L : List S53) (A : Option Addr) (c : Nat) (p : List Int) (B : Option Addr) (cb : Nat) (hr : Kd.C k53 w A L.length L) (hp : Kd.C (Kd.int .i64) w B p.length p) (hcb : p.length ≤ cb) (hg : Grows L) (hn : L.length ≤ 256) (h_bfs : s.toList ≠ ([98, 102, 115] : List UInt8)) (h_sssp : s.toList ≠ ([115, 115, 115, 112] : List UInt8)) (h_pagerank : s.toList ≠ ([112, 97, 103, 101, 114, 97, 110, 107] : List UInt8)) (h_degree : s.toList = ([100, 101, 103, 114, 101, 101] : List UInt8)) :
    Calls Try.prog 52 #[.string s, .agg #[.slice A L.length c], .slice B p.length cb] w fun e w' => e = .returned (.int .i64 (noneR p)) ∧ Below w.heap.size w w' := by
  have g_bfs : (s.toList == ([98, 102, 115] : List UInt8)) = false := beq_eq_false_iff_ne.mpr h_bfs
  have g_sssp : (s.toList == ([115, 115, 115, 112] : List UInt8)) = false := beq_eq_false_iff_ne.mpr h_sssp
  have g_pagerank : (s.toList == ([112, 97, 103, 101, 114, 97, 110, 107] : List UInt8)) = false := beq_eq_false_iff_ne.mpr h_pagerank
  have g_degree : (s.toList == ([100, 101, 103, 114, 101, 101] : List UInt8)) = true := beq_iff_eq.mpr h_degree
  clear h_bfs h_sssp h_pagerank h_degree
  have HX := Aside0.mk (blk_alloc (blk_new w (.cells #[.slice A L.length c] 24)) (.cells #[.int .i64 0] 25))
  have HY := Aside0.mk (blk_new (w.alloc (.cells #[.slice A L.length c] 24)) (.cells #[.int .i64 0] 25))
  have HB := Aside0.mk (below_alloc (below_alloc (Below.refl w.heap.size w) (.cells #[.slice A L.length c] 24)) (.cells #[.int .i64 0] 25))
  rw [World.size_alloc] at HY
  generalize hw2 : ((w.alloc (.cells #[.slice A L.length c] 24)).alloc (.cells #[.int .i64 0] 25)) = w2 at HX HY HB
  have HR := Aside0.mk (Kd.C_below hr HB.out)
  have HP := Aside0.mk (Kd.C_below hp HB.out)
  have hc2 : w2.cell? ⟨w.heap.size, 0, none⟩ = some (.slice A L.length c) := (blk_cell HX.out 0).trans rfl
  have hcy0 : w2.cell? ⟨w.heap.size + 1, 0, none⟩ = some (.int .i64 0) := (blk_cell HY.out 0).trans rfl
  have hfy0 := blk_frozen HY.out 0
  clear hr hp
  go_enter Try.func52, Try.ntmps52
  go_wp2_with fail
  refine (kern_None.calls B cb p (noneR p) w2 HP.out hcb (none_f p)).mono ?_
  rintro e w3 ⟨rfl, hb3⟩
  have HB3 := Aside0.mk (below_then HB.out HB.out.size hb3.below)
  have HY3 := Aside0.mk (blk_below HY.out hb3.below)
  have hcy : w3.cell? ⟨w.heap.size + 1, 0, none⟩ = some (.int .i64 0) := (blk_cell HY3.out 0).trans rfl
  have hfy := blk_frozen HY3.out 0
  clear hb3 hw2
  go_wp2_with fail
  refine bodyPost_ret (v := .int .i64 (noneR p)) (results_cell_one rfl _ _ (w.heap.size + 1) _ rfl ((blk_cell (blk_set HY3.out 0 _) 0).trans rfl)) rfl ?_
  exact ⟨rfl, below_set HB3.out (Nat.le_succ _)⟩

set_option maxHeartbeats 4000000 in
set_option maxRecDepth 100000 in
theorem cc_calls (w : World) (s : ByteArray) (L : List S53) (A : Option Addr) (c : Nat) (p : List Int) (B : Option Addr) (cb : Nat) (hr : Kd.C k53 w A L.length L) (hp : Kd.C (Kd.int .i64) w B p.length p) (hcb : p.length ≤ cb) (hg : Grows L) (hn : L.length ≤ 256) (h_bfs : s.toList ≠ ([98, 102, 115] : List UInt8)) (h_sssp : s.toList ≠ ([115, 115, 115, 112] : List UInt8)) (h_pagerank : s.toList ≠ ([112, 97, 103, 101, 114, 97, 110, 107] : List UInt8)) (h_degree : s.toList ≠ ([100, 101, 103, 114, 101, 101] : List UInt8)) (h_cc : s.toList = ([99, 99] : List UInt8)) :
    Calls Try.prog 52 #[.string s, .agg #[.slice A L.length c], .slice B p.length cb] w fun e w' => e = .returned (.int .i64 (noneR p)) ∧ Below w.heap.size w w' := by
  have g_bfs : (s.toList == ([98, 102, 115] : List UInt8)) = false := beq_eq_false_iff_ne.mpr h_bfs
  have g_sssp : (s.toList == ([115, 115, 115, 112] : List UInt8)) = false := beq_eq_false_iff_ne.mpr h_sssp
  have g_pagerank : (s.toList == ([112, 97, 103, 101, 114, 97, 110, 107] : List UInt8)) = false := beq_eq_false_iff_ne.mpr h_pagerank
  have g_degree : (s.toList == ([100, 101, 103, 114, 101, 101] : List UInt8)) = false := beq_eq_false_iff_ne.mpr h_degree
  have g_cc : (s.toList == ([99, 99] : List UInt8)) = true := beq_iff_eq.mpr h_cc
  clear h_bfs h_sssp h_pagerank h_degree h_cc
  have HX := Aside0.mk (blk_alloc (blk_new w (.cells #[.slice A L.length c] 24)) (.cells #[.int .i64 0] 25))
  have HY := Aside0.mk (blk_new (w.alloc (.cells #[.slice A L.length c] 24)) (.cells #[.int .i64 0] 25))
  have HB := Aside0.mk (below_alloc (below_alloc (Below.refl w.heap.size w) (.cells #[.slice A L.length c] 24)) (.cells #[.int .i64 0] 25))
  rw [World.size_alloc] at HY
  generalize hw2 : ((w.alloc (.cells #[.slice A L.length c] 24)).alloc (.cells #[.int .i64 0] 25)) = w2 at HX HY HB
  have HR := Aside0.mk (Kd.C_below hr HB.out)
  have HP := Aside0.mk (Kd.C_below hp HB.out)
  have hc2 : w2.cell? ⟨w.heap.size, 0, none⟩ = some (.slice A L.length c) := (blk_cell HX.out 0).trans rfl
  have hcy0 : w2.cell? ⟨w.heap.size + 1, 0, none⟩ = some (.int .i64 0) := (blk_cell HY.out 0).trans rfl
  have hfy0 := blk_frozen HY.out 0
  clear hr hp
  go_enter Try.func52, Try.ntmps52
  go_wp2_with fail
  refine (kern_None.calls B cb p (noneR p) w2 HP.out hcb (none_f p)).mono ?_
  rintro e w3 ⟨rfl, hb3⟩
  have HB3 := Aside0.mk (below_then HB.out HB.out.size hb3.below)
  have HY3 := Aside0.mk (blk_below HY.out hb3.below)
  have hcy : w3.cell? ⟨w.heap.size + 1, 0, none⟩ = some (.int .i64 0) := (blk_cell HY3.out 0).trans rfl
  have hfy := blk_frozen HY3.out 0
  clear hb3 hw2
  go_wp2_with fail
  refine bodyPost_ret (v := .int .i64 (noneR p)) (results_cell_one rfl _ _ (w.heap.size + 1) _ rfl ((blk_cell (blk_set HY3.out 0 _) 0).trans rfl)) rfl ?_
  exact ⟨rfl, below_set HB3.out (Nat.le_succ _)⟩

set_option maxHeartbeats 4000000 in
set_option maxRecDepth 100000 in
theorem other_calls (w : World) (s : ByteArray) (L : List S53) (A : Option Addr) (c : Nat) (p : List Int) (B : Option Addr) (cb : Nat) (hr : Kd.C k53 w A L.length L) (hp : Kd.C (Kd.int .i64) w B p.length p) (hcb : p.length ≤ cb) (hg : Grows L) (hn : L.length ≤ 256) (h_bfs : s.toList ≠ ([98, 102, 115] : List UInt8)) (h_sssp : s.toList ≠ ([115, 115, 115, 112] : List UInt8)) (h_pagerank : s.toList ≠ ([112, 97, 103, 101, 114, 97, 110, 107] : List UInt8)) (h_degree : s.toList ≠ ([100, 101, 103, 114, 101, 101] : List UInt8)) (h_cc : s.toList ≠ ([99, 99] : List UInt8)) :
    Calls Try.prog 52 #[.string s, .agg #[.slice A L.length c], .slice B p.length cb] w fun e w' => e = .returned (.int .i64 (70)) ∧ Below w.heap.size w w' := by
  have g_bfs : (s.toList == ([98, 102, 115] : List UInt8)) = false := beq_eq_false_iff_ne.mpr h_bfs
  have g_sssp : (s.toList == ([115, 115, 115, 112] : List UInt8)) = false := beq_eq_false_iff_ne.mpr h_sssp
  have g_pagerank : (s.toList == ([112, 97, 103, 101, 114, 97, 110, 107] : List UInt8)) = false := beq_eq_false_iff_ne.mpr h_pagerank
  have g_degree : (s.toList == ([100, 101, 103, 114, 101, 101] : List UInt8)) = false := beq_eq_false_iff_ne.mpr h_degree
  have g_cc : (s.toList == ([99, 99] : List UInt8)) = false := beq_eq_false_iff_ne.mpr h_cc
  clear h_bfs h_sssp h_pagerank h_degree h_cc
  have HX := Aside0.mk (blk_alloc (blk_new w (.cells #[.slice A L.length c] 24)) (.cells #[.int .i64 0] 25))
  have HY := Aside0.mk (blk_new (w.alloc (.cells #[.slice A L.length c] 24)) (.cells #[.int .i64 0] 25))
  have HB := Aside0.mk (below_alloc (below_alloc (Below.refl w.heap.size w) (.cells #[.slice A L.length c] 24)) (.cells #[.int .i64 0] 25))
  rw [World.size_alloc] at HY
  generalize hw2 : ((w.alloc (.cells #[.slice A L.length c] 24)).alloc (.cells #[.int .i64 0] 25)) = w2 at HX HY HB
  have HR := Aside0.mk (Kd.C_below hr HB.out)
  have HP := Aside0.mk (Kd.C_below hp HB.out)
  have hc2 : w2.cell? ⟨w.heap.size, 0, none⟩ = some (.slice A L.length c) := (blk_cell HX.out 0).trans rfl
  have hcy0 : w2.cell? ⟨w.heap.size + 1, 0, none⟩ = some (.int .i64 0) := (blk_cell HY.out 0).trans rfl
  have hfy0 := blk_frozen HY.out 0
  clear hr hp
  go_enter Try.func52, Try.ntmps52
  go_wp2_with fail
  refine bodyPost_ret (v := .int .i64 70) (results_cell_one rfl _ _ (w.heap.size + 1) _ rfl ((blk_cell (blk_set HY.out 0 _) 0).trans rfl)) rfl ?_
  exact ⟨rfl, below_set HB.out (Nat.le_succ _)⟩
end Go.Proofs.Ytbeefbhoccdicaa.KCheck
