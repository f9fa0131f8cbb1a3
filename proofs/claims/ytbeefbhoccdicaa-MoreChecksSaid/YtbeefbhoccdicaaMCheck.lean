/- Which parameters a program of layer 8 allows: walked; and the document's word on it. -/
import Derived.Test.YtbeefbhoccdicaaKCheckA
namespace Go.Proofs.Ytbeefbhoccdicaa.MCheck
open Go.RowKit Go.Proofs.YtbeefbhoccdicaaW.PrintWords Go.Proofs.YtbeefbhoccdicaaW.PrintLast Go.Proofs.YtbeefbhoccdicaaW.PrintMore Go.Proofs.Ytbeefbhoccdicaa.QGraphReads Go.Proofs.Ytbeefbhoccdicaa.WireNum Go.Proofs.Ytbeefbhoccdicaa.PutG Go.Proofs.Ytbeefbhoccdicaa.FindG Go.Proofs.Ytbeefbhoccdicaa.AllG Go.Proofs.Ytbeefbhoccdicaa.CheckG Go.Proofs.Ytbeefbhoccdicaa.SourceK Go.Proofs.Ytbeefbhoccdicaa.KCheck Go.Proofs.Ytbeefbhoccdicaa.KCheckS Go.Proofs.Ytbeefbhoccdicaa.RefSpec Go.Proofs.Ytbeefbhoccdicaa.RefCheck Go.Proofs.Ytbeefbhoccdicaa.RefK Go.Proofs.Ytbeefbhoccdicaa.KCheckA
set_option linter.unusedVariables false
set_option linter.unusedSimpArgs false

def coreR (p : List Int) : Int := if p.length = 1 then (if rd p 0 < 0 then 71 else (if rd p 0 > 256 then 71 else 0)) else 71
def kr8 (s : ByteArray) (L : List S53) (p : List Int) : Int :=
  if s.toList = ([108, 97, 98, 101, 108, 115] : List UInt8) then turnsR p else if s.toList = ([107, 99, 111, 114, 101] : List UInt8) then coreR p else if s.toList = ([116, 114, 105, 97, 110, 103, 108, 101, 115] : List UInt8) then noneR p else if s.toList = ([109, 97, 116, 99, 104, 105, 110, 103] : List UInt8) then noneR p else if s.toList = ([99, 111, 108, 111, 114, 115] : List UInt8) then noneR p else kr s L p

set_option maxHeartbeats 4000000 in
set_option maxRecDepth 100000 in
theorem labels_calls (w : World) (s : ByteArray) (L : List S53) (A : Option Addr) (c : Nat) (p : List Int) (B : Option Addr) (cb : Nat) (hr : Kd.C k53 w A L.length L) (hp : Kd.C (Kd.int .i64) w B p.length p) (hcb : p.length ≤ cb) (hg : Grows L) (hn : L.length ≤ 256) (h_labels : s.toList = ([108, 97, 98, 101, 108, 115] : List UInt8)) :
    Calls Try.prog 62 #[.string s, .agg #[.slice A L.length c], .slice B p.length cb] w fun e w' => e = .returned (.int .i64 (turnsR p)) ∧ Below w.heap.size w w' := by
  have g_labels : (s.toList == ([108, 97, 98, 101, 108, 115] : List UInt8)) = true := beq_iff_eq.mpr h_labels
  clear h_labels
  have HB := Aside0.mk (below_alloc (Below.refl w.heap.size w) (.cells #[.slice A L.length c] 24))
  have HR := Aside0.mk (Kd.C_alloc hr (.cells #[.slice A L.length c] 24))
  have HP := Aside0.mk (Kd.C_alloc hp (.cells #[.slice A L.length c] 24))
  clear hr hp
  go_enter Try.func62, Try.ntmps62
  go_wp2_with fail
  generalize w.alloc (.cells #[.slice A L.length c] 24) = w1 at HB HR HP ⊢
  refine (kern_Turns.calls B cb p (turnsR p) w1 HP.out hcb (turns_f p)).mono ?_
  rintro e w2 ⟨rfl, hb2⟩
  have HB2 := Aside0.mk (below_then HB.out HB.out.size hb2.below)
  clear hb2
  go_wp2_with fail
  go_ret
  exact ⟨by first | rfl | simp, HB2.out⟩

set_option maxHeartbeats 4000000 in
set_option maxRecDepth 100000 in
theorem core_many_calls (w : World) (s : ByteArray) (L : List S53) (A : Option Addr) (c : Nat) (p : List Int) (B : Option Addr) (cb : Nat) (hr : Kd.C k53 w A L.length L) (hp : Kd.C (Kd.int .i64) w B p.length p) (hcb : p.length ≤ cb) (hg : Grows L) (hn : L.length ≤ 256) (h_labels : s.toList ≠ ([108, 97, 98, 101, 108, 115] : List UInt8)) (h_kcore : s.toList = ([107, 99, 111, 114, 101] : List UInt8)) (hlen : p.length ≠ 1) :
    Calls Try.prog 62 #[.string s, .agg #[.slice A L.length c], .slice B p.length cb] w fun e w' => e = .returned (.int .i64 (71)) ∧ Below w.heap.size w w' := by
  have g_labels : (s.toList == ([108, 97, 98, 101, 108, 115] : List UInt8)) = false := beq_eq_false_iff_ne.mpr h_labels
  have g_kcore : (s.toList == ([107, 99, 111, 114, 101] : List UInt8)) = true := beq_iff_eq.mpr h_kcore
  clear h_labels h_kcore
  have hlen1 : ((p.length : Int) != 1) = true := bne_iff_ne.mpr (by omega)
  clear hlen
  have HB := Aside0.mk (below_alloc (Below.refl w.heap.size w) (.cells #[.slice A L.length c] 24))
  have HR := Aside0.mk (Kd.C_alloc hr (.cells #[.slice A L.length c] 24))
  have HP := Aside0.mk (Kd.C_alloc hp (.cells #[.slice A L.length c] 24))
  clear hr hp
  go_enter Try.func62, Try.ntmps62
  go_wp2_with fail
  go_ret
  exact ⟨by first | rfl | simp, HB.out⟩

set_option maxHeartbeats 4000000 in
set_option maxRecDepth 100000 in
theorem core_low_calls (w : World) (s : ByteArray) (L : List S53) (A : Option Addr) (c : Nat) (p : List Int) (B : Option Addr) (cb : Nat) (hr : Kd.C k53 w A L.length L) (hp : Kd.C (Kd.int .i64) w B p.length p) (hcb : p.length ≤ cb) (hg : Grows L) (hn : L.length ≤ 256) (h_labels : s.toList ≠ ([108, 97, 98, 101, 108, 115] : List UInt8)) (h_kcore : s.toList = ([107, 99, 111, 114, 101] : List UInt8)) (hlen : p.length = 1) (h0 : rd p 0 < 0) :
    Calls Try.prog 62 #[.string s, .agg #[.slice A L.length c], .slice B p.length cb] w fun e w' => e = .returned (.int .i64 (71)) ∧ Below w.heap.size w w' := by
  have g_labels : (s.toList == ([108, 97, 98, 101, 108, 115] : List UInt8)) = false := beq_eq_false_iff_ne.mpr h_labels
  have g_kcore : (s.toList == ([107, 99, 111, 114, 101] : List UInt8)) = true := beq_iff_eq.mpr h_kcore
  clear h_labels h_kcore
  obtain ⟨ad, hB, hpc⟩ := Kd.at_int hp 0 (by omega) (by omega)
  subst hB
  replace hpc : w.cell? ad = some (.int .i64 (rd p 0)) := by simpa [Addr.add] using hpc
  have hpl := World.block_lt_of_cell? _ _ hpc
  have hpn : (ad.block = w.heap.size) = False := eq_false (by omega)
  have hlen1 : ((p.length : Int) != 1) = false := bne_eq_false_iff_eq.mpr (by omega)
  have hlt0 : ((0 : Int) < (p.length : Int)) = True := eq_true (by omega)
  have hltn : (0 < p.length) = True := eq_true (by omega)
  clear hlen
  have hq : decide (rd p 0 < 0) = true := decide_eq_true h0
  clear h0
  have HB := Aside0.mk (below_alloc (Below.refl w.heap.size w) (.cells #[.slice A L.length c] 24))
  have HR := Aside0.mk (Kd.C_alloc hr (.cells #[.slice A L.length c] 24))
  have HP := Aside0.mk (Kd.C_alloc hp (.cells #[.slice A L.length c] 24))
  clear hr hp
  go_enter Try.func62, Try.ntmps62
  go_wp2_with fail
  go_ret
  exact ⟨by first | rfl | simp, HB.out⟩

set_option maxHeartbeats 4000000 in
set_option maxRecDepth 100000 in
theorem core_high_calls (w : World) (s : ByteArray) (L : List S53) (A : Option Addr) (c : Nat) (p : List Int) (B : Option Addr) (cb : Nat) (hr : Kd.C k53 w A L.length L) (hp : Kd.C (Kd.int .i64) w B p.length p) (hcb : p.length ≤ cb) (hg : Grows L) (hn : L.length ≤ 256) (h_labels : s.toList ≠ ([108, 97, 98, 101, 108, 115] : List UInt8)) (h_kcore : s.toList = ([107, 99, 111, 114, 101] : List UInt8)) (hlen : p.length = 1) (h0 : ¬ rd p 0 < 0) (h1 : rd p 0 > 256) :
    Calls Try.prog 62 #[.string s, .agg #[.slice A L.length c], .slice B p.length cb] w fun e w' => e = .returned (.int .i64 (71)) ∧ Below w.heap.size w w' := by
  have g_labels : (s.toList == ([108, 97, 98, 101, 108, 115] : List UInt8)) = false := beq_eq_false_iff_ne.mpr h_labels
  have g_kcore : (s.toList == ([107, 99, 111, 114, 101] : List UInt8)) = true := beq_iff_eq.mpr h_kcore
  clear h_labels h_kcore
  obtain ⟨ad, hB, hpc⟩ := Kd.at_int hp 0 (by omega) (by omega)
  subst hB
  replace hpc : w.cell? ad = some (.int .i64 (rd p 0)) := by simpa [Addr.add] using hpc
  have hpl := World.block_lt_of_cell? _ _ hpc
  have hpn : (ad.block = w.heap.size) = False := eq_false (by omega)
  have hlen1 : ((p.length : Int) != 1) = false := bne_eq_false_iff_eq.mpr (by omega)
  have hlt0 : ((0 : Int) < (p.length : Int)) = True := eq_true (by omega)
  have hltn : (0 < p.length) = True := eq_true (by omega)
  clear hlen
  have hq : decide (rd p 0 < 0) = false := decide_eq_false h0
  have hq1 : decide (256 < rd p 0) = true := decide_eq_true h1
  clear h0 h1
  have HB := Aside0.mk (below_alloc (Below.refl w.heap.size w) (.cells #[.slice A L.length c] 24))
  have HR := Aside0.mk (Kd.C_alloc hr (.cells #[.slice A L.length c] 24))
  have HP := Aside0.mk (Kd.C_alloc hp (.cells #[.slice A L.length c] 24))
  clear hr hp
  go_enter Try.func62, Try.ntmps62
  go_wp2_with fail
  go_ret
  exact ⟨by first | rfl | simp, HB.out⟩

set_option maxHeartbeats 4000000 in
set_option maxRecDepth 100000 in
theorem core_ok_calls (w : World) (s : ByteArray) (L : List S53) (A : Option Addr) (c : Nat) (p : List Int) (B : Option Addr) (cb : Nat) (hr : Kd.C k53 w A L.length L) (hp : Kd.C (Kd.int .i64) w B p.length p) (hcb : p.length ≤ cb) (hg : Grows L) (hn : L.length ≤ 256) (h_labels : s.toList ≠ ([108, 97, 98, 101, 108, 115] : List UInt8)) (h_kcore : s.toList = ([107, 99, 111, 114, 101] : List UInt8)) (hlen : p.length = 1) (h0 : ¬ rd p 0 < 0) (h1 : ¬ rd p 0 > 256) :
    Calls Try.prog 62 #[.string s, .agg #[.slice A L.length c], .slice B p.length cb] w fun e w' => e = .returned (.int .i64 (0)) ∧ Below w.heap.size w w' := by
  have g_labels : (s.toList == ([108, 97, 98, 101, 108, 115] : List UInt8)) = false := beq_eq_false_iff_ne.mpr h_labels
  have g_kcore : (s.toList == ([107, 99, 111, 114, 101] : List UInt8)) = true := beq_iff_eq.mpr h_kcore
  clear h_labels h_kcore
  obtain ⟨ad, hB, hpc⟩ := Kd.at_int hp 0 (by omega) (by omega)
  subst hB
  replace hpc : w.cell? ad = some (.int .i64 (rd p 0)) := by simpa [Addr.add] using hpc
  have hpl := World.block_lt_of_cell? _ _ hpc
  have hpn : (ad.block = w.heap.size) = False := eq_false (by omega)
  have hlen1 : ((p.length : Int) != 1) = false := bne_eq_false_iff_eq.mpr (by omega)
  have hlt0 : ((0 : Int) < (p.length : Int)) = True := eq_true (by omega)
  have hltn : (0 < p.length) = True := eq_true (by omega)
  clear hlen
  have hq : decide (rd p 0 < 0) = false := decide_eq_false h0
  have hq1 : decide (256 < rd p 0) = false := decide_eq_false h1
  clear h0 h1
  have HB := Aside0.mk (below_alloc (Below.refl w.heap.size w) (.cells #[.slice A L.length c] 24))
  have HR := Aside0.mk (Kd.C_alloc hr (.cells #[.slice A L.length c] 24))
  have HP := Aside0.mk (Kd.C_alloc hp (.cells #[.slice A L.length c] 24))
  clear hr hp
  go_enter Try.func62, Try.ntmps62
  go_wp2_with fail
  go_ret
  exact ⟨by first | rfl | simp, HB.out⟩

set_option maxHeartbeats 4000000 in
set_option maxRecDepth 100000 in
theorem triangles_calls (w : World) (s : ByteArray) (L : List S53) (A : Option Addr) (c : Nat) (p : List Int) (B : Option Addr) (cb : Nat) (hr : Kd.C k53 w A L.length L) (hp : Kd.C (Kd.int .i64) w B p.length p) (hcb : p.length ≤ cb) (hg : Grows L) (hn : L.length ≤ 256) (h_labels : s.toList ≠ ([108, 97, 98, 101, 108, 115] : List UInt8)) (h_kcore : s.toList ≠ ([107, 99, 111, 114, 101] : List UInt8)) (h_triangles : s.toList = ([116, 114, 105, 97, 110, 103, 108, 101, 115] : List UInt8)) :
    Calls Try.prog 62 #[.string s, .agg #[.slice A L.length c], .slice B p.length cb] w fun e w' => e = .returned (.int .i64 (noneR p)) ∧ Below w.heap.size w w' := by
  have g_labels : (s.toList == ([108, 97, 98, 101, 108, 115] : List UInt8)) = false := beq_eq_false_iff_ne.mpr h_labels
  have g_kcore : (s.toList == ([107, 99, 111, 114, 101] : List UInt8)) = false := beq_eq_false_iff_ne.mpr h_kcore
  have g_triangles : (s.toList == ([116, 114, 105, 97, 110, 103, 108, 101, 115] : List UInt8)) = true := beq_iff_eq.mpr h_triangles
  clear h_labels h_kcore h_triangles
  have HB := Aside0.mk (below_alloc (Below.refl w.heap.size w) (.cells #[.slice A L.length c] 24))
  have HR := Aside0.mk (Kd.C_alloc hr (.cells #[.slice A L.length c] 24))
  have HP := Aside0.mk (Kd.C_alloc hp (.cells #[.slice A L.length c] 24))
  clear hr hp
  go_enter Try.func62, Try.ntmps62
  go_wp2_with fail
  generalize w.alloc (.cells #[.slice A L.length c] 24) = w1 at HB HR HP ⊢
  refine (kern_None.calls B cb p (noneR p) w1 HP.out hcb (none_f p)).mono ?_
  rintro e w2 ⟨rfl, hb2⟩
  have HB2 := Aside0.mk (below_then HB.out HB.out.size hb2.below)
  clear hb2
  go_wp2_with fail
  go_ret
  exact ⟨by first | rfl | simp, HB2.out⟩

set_option maxHeartbeats 4000000 in
set_option maxRecDepth 100000 in
theorem matching_calls (w : World) (s : ByteArray) (L : List S53) (A : Option Addr) (c : Nat) (p : List Int) (B : Option Addr) (cb : Nat) (hr : Kd.C k53 w A L.length L) (hp : Kd.C (Kd.int .i64) w B p.length p) (hcb : p.length ≤ cb) (hg : Grows L) (hn : L.length ≤ 256) (h_labels : s.toList ≠ ([108, 97, 98, 101, 108, 115] : List UInt8)) (h_kcore : s.toList ≠ ([107, 99, 111, 114, 101] : List UInt8)) (h_triangles : s.toList ≠ ([116, 114, 105, 97, 110, 103, 108, 101, 115] : List UInt8)) (h_matching : s.toList = ([109, 97, 116, 99, 104, 105, 110, 103] : List UInt8)) :
    Calls Try.prog 62 #[.string s, .agg #[.slice A L.length c], .slice B p.length cb] w fun e w' => e = .returned (.int .i64 (noneR p)) ∧ Below w.heap.size w w' := by
  have g_labels : (s.toList == ([108, 97, 98, 101, 108, 115] : List UInt8)) = false := beq_eq_false_iff_ne.mpr h_labels
  have g_kcore : (s.toList == ([107, 99, 111, 114, 101] : List UInt8)) = false := beq_eq_false_iff_ne.mpr h_kcore
  have g_triangles : (s.toList == ([116, 114, 105, 97, 110, 103, 108, 101, 115] : List UInt8)) = false := beq_eq_false_iff_ne.mpr h_triangles
  have g_matching : (s.toList == ([109, 97, 116, 99, 104, 105, 110, 103] : List UInt8)) = true := beq_iff_eq.mpr h_matching
  clear h_labels h_kcore h_triangles h_matching
  have HB := Aside0.mk (below_alloc (Below.refl w.heap.size w) (.cells #[.slice A L.length c] 24))
  have HR := Aside0.mk (Kd.C_alloc hr (.cells #[.slice A L.length c] 24))
  have HP := Aside0.mk (Kd.C_alloc hp (.cells #[.slice A L.length c] 24))
  clear hr hp
  go_enter Try.func62, Try.ntmps62
  go_wp2_with fail
  generalize w.alloc (.cells #[.slice A L.length c] 24) = w1 at HB HR HP ⊢
  refine (kern_None.calls B cb p (noneR p) w1 HP.out hcb (none_f p)).mono ?_
  rintro e w2 ⟨rfl, hb2⟩
  have HB2 := Aside0.mk (below_then HB.out HB.out.size hb2.below)
  clear hb2
  go_wp2_with fail
  go_ret
  exact ⟨by first | rfl | simp, HB2.out⟩

set_option maxHeartbeats 4000000 in
set_option maxRecDepth 100000 in
theorem colors_calls (w : World) (s : ByteArray) (L : List S53) (A : Option Addr) (c : Nat) (p : List Int) (B : Option Addr) (cb : Nat) (hr : Kd.C k53 w A L.length L) (hp : Kd.C (Kd.int .i64) w B p.length p) (hcb : p.length ≤ cb) (hg : Grows L) (hn : L.length ≤ 256) (h_labels : s.toList ≠ ([108, 97, 98, 101, 108, 115] : List UInt8)) (h_kcore : s.toList ≠ ([107, 99, 111, 114, 101] : List UInt8)) (h_triangles : s.toList ≠ ([116, 114, 105, 97, 110, 103, 108, 101, 115] : List UInt8)) (h_matching : s.toList ≠ ([109, 97, 116, 99, 104, 105, 110, 103] : List UInt8)) (h_colors : s.toList = ([99, 111, 108, 111, 114, 115] : List UInt8)) :
    Calls Try.prog 62 #[.string s, .agg #[.slice A L.length c], .slice B p.length cb] w fun e w' => e = .returned (.int .i64 (noneR p)) ∧ Below w.heap.size w w' := by
  have g_labels : (s.toList == ([108, 97, 98, 101, 108, 115] : List UInt8)) = false := beq_eq_false_iff_ne.mpr h_labels
  have g_kcore : (s.toList == ([107, 99, 111, 114, 101] : List UInt8)) = false := beq_eq_false_iff_ne.mpr h_kcore
  have g_triangles : (s.toList == ([116, 114, 105, 97, 110, 103, 108, 101, 115] : List UInt8)) = false := beq_eq_false_iff_ne.mpr h_triangles
  have g_matching : (s.toList == ([109, 97, 116, 99, 104, 105, 110, 103] : List UInt8)) = false := beq_eq_false_iff_ne.mpr h_matching
  have g_colors : (s.toList == ([99, 111, 108, 111, 114, 115] : List UInt8)) = true := beq_iff_eq.mpr h_colors
  clear h_labels h_kcore h_triangles h_matching h_colors
  have HB := Aside0.mk (below_alloc (Below.refl w.heap.size w) (.cells #[.slice A L.length c] 24))
  have HR := Aside0.mk (Kd.C_alloc hr (.cells #[.slice A L.length c] 24))
  have HP := Aside0.mk (Kd.C_alloc hp (.cells #[.slice A L.length c] 24))
  clear hr hp
  go_enter Try.func62, Try.ntmps62
  go_wp2_with fail
  generalize w.alloc (.cells #[.slice A L.length c] 24) = w1 at HB HR HP ⊢
  refine (kern_None.calls B cb p (noneR p) w1 HP.out hcb (none_f p)).mono ?_
  rintro e w2 ⟨rfl, hb2⟩
  have HB2 := Aside0.mk (below_then HB.out HB.out.size hb2.below)
  clear hb2
  go_wp2_with fail
  go_ret
  exact ⟨by first | rfl | simp, HB2.out⟩

set_option maxHeartbeats 4000000 in
set_option maxRecDepth 100000 in
theorem rest_calls (w : World) (s : ByteArray) (L : List S53) (A : Option Addr) (c : Nat) (p : List Int) (B : Option Addr) (cb : Nat) (hr : Kd.C k53 w A L.length L) (hp : Kd.C (Kd.int .i64) w B p.length p) (hcb : p.length ≤ cb) (hg : Grows L) (hn : L.length ≤ 256) (h_labels : s.toList ≠ ([108, 97, 98, 101, 108, 115] : List UInt8)) (h_kcore : s.toList ≠ ([107, 99, 111, 114, 101] : List UInt8)) (h_triangles : s.toList ≠ ([116, 114, 105, 97, 110, 103, 108, 101, 115] : List UInt8)) (h_matching : s.toList ≠ ([109, 97, 116, 99, 104, 105, 110, 103] : List UInt8)) (h_colors : s.toList ≠ ([99, 111, 108, 111, 114, 115] : List UInt8)) :
    Calls Try.prog 62 #[.string s, .agg #[.slice A L.length c], .slice B p.length cb] w fun e w' => e = .returned (.int .i64 (kr s L p)) ∧ Below w.heap.size w w' := by
  have g_labels : (s.toList == ([108, 97, 98, 101, 108, 115] : List UInt8)) = false := beq_eq_false_iff_ne.mpr h_labels
  have g_kcore : (s.toList == ([107, 99, 111, 114, 101] : List UInt8)) = false := beq_eq_false_iff_ne.mpr h_kcore
  have g_triangles : (s.toList == ([116, 114, 105, 97, 110, 103, 108, 101, 115] : List UInt8)) = false := beq_eq_false_iff_ne.mpr h_triangles
  have g_matching : (s.toList == ([109, 97, 116, 99, 104, 105, 110, 103] : List UInt8)) = false := beq_eq_false_iff_ne.mpr h_matching
  have g_colors : (s.toList == ([99, 111, 108, 111, 114, 115] : List UInt8)) = false := beq_eq_false_iff_ne.mpr h_colors
  clear h_labels h_kcore h_triangles h_matching h_colors
  have HB := Aside0.mk (below_alloc (Below.refl w.heap.size w) (.cells #[.slice A L.length c] 24))
  have HR := Aside0.mk (Kd.C_alloc hr (.cells #[.slice A L.length c] 24))
  have HP := Aside0.mk (Kd.C_alloc hp (.cells #[.slice A L.length c] 24))
  clear hr hp
  go_enter Try.func62, Try.ntmps62
  go_wp2_with fail
  generalize w.alloc (.cells #[.slice A L.length c] 24) = w1 at HB HR HP ⊢
  refine (kcheck_calls w1 s L A c p B cb HR.out HP.out hcb hg hn).mono ?_
  rintro e w2 ⟨rfl, hb2⟩
  have HB2 := Aside0.mk (below_then HB.out HB.out.size hb2)
  clear hb2
  go_wp2_with fail
  go_ret
  exact ⟨by first | rfl | simp, HB2.out⟩

theorem mcheck_calls (w : World) (s : ByteArray) (L : List S53) (A : Option Addr) (c : Nat) (p : List Int) (B : Option Addr) (cb : Nat) (hr : Kd.C k53 w A L.length L) (hp : Kd.C (Kd.int .i64) w B p.length p) (hcb : p.length ≤ cb) (hg : Grows L) (hn : L.length ≤ 256) :
    Calls Try.prog 62 #[.string s, .agg #[.slice A L.length c], .slice B p.length cb] w fun e w' => e = .returned (.int .i64 (kr8 s L p)) ∧ Below w.heap.size w w' := by
  unfold kr8
  by_cases h1 : s.toList = ([108, 97, 98, 101, 108, 115] : List UInt8)
  · rw [if_pos h1]
    exact labels_calls w s L A c p B cb hr hp hcb hg hn h1
  · rw [if_neg h1]
    by_cases h2 : s.toList = ([107, 99, 111, 114, 101] : List UInt8)
    · rw [if_pos h2]
      unfold coreR
      by_cases hl : p.length = 1
      · rw [if_pos hl]
        by_cases h0 : rd p 0 < 0
        · rw [if_pos h0]
          exact core_low_calls w s L A c p B cb hr hp hcb hg hn h1 h2 hl h0
        · rw [if_neg h0]
          by_cases hh : rd p 0 > 256
          · rw [if_pos hh]
            exact core_high_calls w s L A c p B cb hr hp hcb hg hn h1 h2 hl h0 hh
          · rw [if_neg hh]
            exact core_ok_calls w s L A c p B cb hr hp hcb hg hn h1 h2 hl h0 hh
      · rw [if_neg hl]
        exact core_many_calls w s L A c p B cb hr hp hcb hg hn h1 h2 hl
    · rw [if_neg h2]
      by_cases h3 : s.toList = ([116, 114, 105, 97, 110, 103, 108, 101, 115] : List UInt8)
      · rw [if_pos h3]
        exact triangles_calls w s L A c p B cb hr hp hcb hg hn h1 h2 h3
      · rw [if_neg h3]
        by_cases h4 : s.toList = ([109, 97, 116, 99, 104, 105, 110, 103] : List UInt8)
        · rw [if_pos h4]
          exact matching_calls w s L A c p B cb hr hp hcb hg hn h1 h2 h3 h4
        · rw [if_neg h4]
          by_cases h5 : s.toList = ([99, 111, 108, 111, 114, 115] : List UInt8)
          · rw [if_pos h5]
            exact colors_calls w s L A c p B cb hr hp hcb hg hn h1 h2 h3 h4 h5
          · rw [if_neg h5]
            exact rest_calls w s L A c p B cb hr hp hcb hg hn h1 h2 h3 h4 h5

/-! The document. -/
theorem ref_labels (s : ByteArray) (hs : s.toList = ([108, 97, 98, 101, 108, 115] : List UInt8)) (L : List S53) (p : List Int) : ∃ k, cohortref07_Check.f k s (L.map r59) p = some (turnsR p) := by
  refine ⟨2, ?_⟩
  unfold cohortref07_Check.f
  rw [if_neg (by rw [hs]; decide), show (s.toList == ([115, 115, 115, 112] : List UInt8)) = false from by rw [hs]; decide, cohortref07_Check.j0, if_neg (by decide), if_neg (by rw [hs]; decide), beq_iff_eq.mpr hs, cohortref07_Check.j4, if_pos rfl]
  unfold turnsR
  by_cases h : p.length = 1
  · rw [if_pos (by omega), if_pos (by omega), if_pos h]
    by_cases h1 : rd p 0 < 0
    · rw [if_pos h1, if_pos h1]
    · rw [if_neg h1, if_neg h1]
      by_cases h2 : rd p 0 > 100
      · rw [if_pos h2, if_pos h2]
      · rw [if_neg h2, if_neg h2]
  · rw [if_neg (by omega), if_neg h]
theorem ref_core (s : ByteArray) (hs : s.toList = ([107, 99, 111, 114, 101] : List UInt8)) (L : List S53) (p : List Int) : ∃ k, cohortref07_Check.f k s (L.map r59) p = some (coreR p) := by
  refine ⟨2, ?_⟩
  unfold cohortref07_Check.f
  rw [if_neg (by rw [hs]; decide), show (s.toList == ([115, 115, 115, 112] : List UInt8)) = false from by rw [hs]; decide, cohortref07_Check.j0, if_neg (by decide), if_neg (by rw [hs]; decide), show (s.toList == ([108, 97, 98, 101, 108, 115] : List UInt8)) = false from by rw [hs]; decide, cohortref07_Check.j4, if_neg (by decide), if_pos hs]
  unfold coreR
  by_cases h : p.length = 1
  · rw [if_pos (by omega), if_pos (by omega), if_pos h]
    by_cases h1 : rd p 0 < 0
    · rw [if_pos h1, if_pos h1]
    · rw [if_neg h1, if_neg h1]
      by_cases h2 : rd p 0 > 256
      · rw [if_pos h2, if_pos h2]
      · rw [if_neg h2, if_neg h2]
  · rw [if_neg (by omega), if_neg h]
theorem ref_70 (s : ByteArray) (h1 : s.toList ≠ ([98, 102, 115] : List UInt8)) (h2 : s.toList ≠ ([115, 115, 115, 112] : List UInt8)) (h3 : s.toList ≠ ([112, 97, 103, 101, 114, 97, 110, 107] : List UInt8)) (h4 : s.toList ≠ ([108, 97, 98, 101, 108, 115] : List UInt8)) (h5 : s.toList ≠ ([107, 99, 111, 114, 101] : List UInt8)) (hk : knownB s = false) (L : List S53) (p : List Int) : ∃ k, cohortref07_Check.f k s (L.map r59) p = some 70 := by
  refine ⟨13, ?_⟩
  unfold cohortref07_Check.f
  rw [if_neg h1, beq_eq_false_iff_ne.mpr h2, cohortref07_Check.j0, if_neg (by decide), if_neg h3, beq_eq_false_iff_ne.mpr h4, cohortref07_Check.j4, if_neg (by decide), if_neg h5, known_f s (by omega), Option.bind_some, if_neg (by rw [hk]; decide)]
theorem known_is {s : ByteArray} {n : ByteArray} (hn : n ∈ namesL) (h : s.toList = n.data.toList) : knownB s = true := by
  unfold knownB
  rw [List.any_eq_true]
  exact ⟨n, hn, by rw [h, ByteArray.toList_eq]; exact beq_self_eq_true _⟩
theorem known_cases {s : ByteArray} (h : knownB s = true) : s.toList = ([98, 102, 115] : List UInt8) ∨ s.toList = ([99, 99] : List UInt8) ∨ s.toList = ([99, 111, 108, 111, 114, 115] : List UInt8) ∨ s.toList = ([100, 101, 103, 114, 101, 101] : List UInt8) ∨ s.toList = ([107, 99, 111, 114, 101] : List UInt8) ∨ s.toList = ([108, 97, 98, 101, 108, 115] : List UInt8) ∨ s.toList = ([109, 97, 116, 99, 104, 105, 110, 103] : List UInt8) ∨ s.toList = ([112, 97, 103, 101, 114, 97, 110, 107] : List UInt8) ∨ s.toList = ([115, 115, 115, 112] : List UInt8) ∨ s.toList = ([116, 114, 105, 97, 110, 103, 108, 101, 115] : List UInt8) := by
  unfold knownB namesL at h
  simp only [List.any_cons, List.any_nil, Bool.or_false, Bool.or_eq_true, beq_iff_eq, ByteArray.toList_eq] at h
  simp only [ByteArray.toList_eq]
  rcases h with h | h | h | h | h | h | h | h | h | h
  · exact .inl h.symm
  · exact .inr (.inl h.symm)
  · exact .inr (.inr (.inl h.symm))
  · exact .inr (.inr (.inr (.inl h.symm)))
  · exact .inr (.inr (.inr (.inr (.inl h.symm))))
  · exact .inr (.inr (.inr (.inr (.inr (.inl h.symm)))))
  · exact .inr (.inr (.inr (.inr (.inr (.inr (.inl h.symm))))))
  · exact .inr (.inr (.inr (.inr (.inr (.inr (.inr (.inl h.symm)))))))
  · exact .inr (.inr (.inr (.inr (.inr (.inr (.inr (.inr (.inl h.symm))))))))
  · exact .inr (.inr (.inr (.inr (.inr (.inr (.inr (.inr (.inr h.symm))))))))
theorem ref_all (s : ByteArray) (L : List S53) (hL : L.length ≤ 256) (hE : ∀ v ∈ L, v.f2.length ≤ 9223372036854775806) (p : List Int) : ∃ k, cohortref07_Check.f k s (L.map r59) p = some (kr8 s L p) := by
  unfold kr8
  by_cases h1 : s.toList = ([108, 97, 98, 101, 108, 115] : List UInt8)
  · rw [if_pos h1]
    exact ref_labels s h1 L p
  · rw [if_neg h1]
    by_cases h2 : s.toList = ([107, 99, 111, 114, 101] : List UInt8)
    · rw [if_pos h2]
      exact ref_core s h2 L p
    · rw [if_neg h2]
      have none : ∀ n : ByteArray, n ∈ namesL → s.toList = n.data.toList → n.data.toList ≠ ([98, 102, 115] : List UInt8) → n.data.toList ≠ ([115, 115, 115, 112] : List UInt8) → n.data.toList ≠ ([112, 97, 103, 101, 114, 97, 110, 107] : List UInt8) → ∃ k, cohortref07_Check.f k s (L.map r59) p = some (noneR p) := fun n hn h a b c =>
        ref_none s (by rw [h]; exact a) (by rw [h]; exact b) (by rw [h]; exact c) h1 h2 (known_is hn h) L p
      by_cases h3 : s.toList = ([116, 114, 105, 97, 110, 103, 108, 101, 115] : List UInt8)
      · rw [if_pos h3]
        exact none ⟨#[116, 114, 105, 97, 110, 103, 108, 101, 115]⟩ (by simp [namesL]) h3 (by decide) (by decide) (by decide)
      · rw [if_neg h3]
        by_cases h4 : s.toList = ([109, 97, 116, 99, 104, 105, 110, 103] : List UInt8)
        · rw [if_pos h4]
          exact none ⟨#[109, 97, 116, 99, 104, 105, 110, 103]⟩ (by simp [namesL]) h4 (by decide) (by decide) (by decide)
        · rw [if_neg h4]
          by_cases h5 : s.toList = ([99, 111, 108, 111, 114, 115] : List UInt8)
          · rw [if_pos h5]
            exact none ⟨#[99, 111, 108, 111, 114, 115]⟩ (by simp [namesL]) h5 (by decide) (by decide) (by decide)
          · rw [if_neg h5]
            by_cases ho : RefK.Own s
            · exact ref_own s ho L hL hE p
            · rw [kr_other ho]
              unfold RefK.Own at ho
              refine ref_70 s (fun e => ho (.inl e)) (fun e => ho (.inr (.inl e))) (fun e => ho (.inr (.inr (.inr (.inl e))))) h1 h2 ?_ L p
              cases hk : knownB s with
              | false => rfl
              | true =>
                exfalso
                rcases known_cases hk with h | h | h | h | h | h | h | h | h | h
                · exact ho (.inl h)
                · exact ho (.inr (.inr (.inr (.inr h))))
                · exact h5 h
                · exact ho (.inr (.inr (.inl h)))
                · exact h2 h
                · exact h1 h
                · exact h4 h
                · exact ho (.inr (.inr (.inr (.inl h))))
                · exact ho (.inr (.inl h))
                · exact h3 h
end Go.Proofs.Ytbeefbhoccdicaa.MCheck
