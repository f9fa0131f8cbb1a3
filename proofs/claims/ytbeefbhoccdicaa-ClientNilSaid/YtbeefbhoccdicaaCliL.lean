/- What the law says to a client: walked. -/
import Derived.Test.YtbeefbhoccdicaaCliH
namespace Go.Proofs.Ytbeefbhoccdicaa.CliL
open Go.RowKit Go.Proofs.YtbeefbhoccdicaaW.PrintWords Go.Proofs.YtbeefbhoccdicaaW.PrintLast Go.Proofs.YtbeefbhoccdicaaW.PrintMore Go.Proofs.Ytbeefbhoccdicaa.QGraphReads Go.Proofs.Ytbeefbhoccdicaa.PlainV Go.Proofs.Ytbeefbhoccdicaa.WireNum Go.Proofs.Ytbeefbhoccdicaa.WireRead Go.Proofs.Ytbeefbhoccdicaa.RdSpec Go.Proofs.Ytbeefbhoccdicaa.RdC Go.Proofs.Ytbeefbhoccdicaa.CloneC Go.Proofs.Ytbeefbhoccdicaa.CliA Go.Proofs.Ytbeefbhoccdicaa.CliK Go.Proofs.Ytbeefbhoccdicaa.CliT Go.Proofs.Ytbeefbhoccdicaa.TakeT Go.Proofs.Ytbeefbhoccdicaa.DecS Go.Proofs.Ytbeefbhoccdicaa.EncS Go.Proofs.Ytbeefbhoccdicaa.CliH
set_option linter.unusedVariables false
set_option linter.unusedSimpArgs false

theorem fold_putL : ∀ (l : List Value) (zs : Array Value) (o k : Nat), (l.zipIdx k).foldl (fun cs x => cs.setIfInBounds (o + x.snd) x.fst) zs = putL zs (o + k) l
  | [], _, _, _ => rfl
  | v :: r, zs, o, k => by
    rw [List.zipIdx_cons, List.foldl_cons, fold_putL r _ o (k + 1)]
    rfl
theorem fold_arr {n : Nat} (T : Array Value) (h : T.size = n) (zs : Array Value) (o : Nat) : Array.foldl (fun cs x => cs.setIfInBounds (o + x.snd) x.fst) zs T.zipIdx 0 n = putL zs o T.toList := by
  have hz : T.zipIdx.size = n := by simp [h]
  rw [← hz, ← Array.foldl_toList, Array.toList_zipIdx]
  exact fold_putL T.toList zs o 0
theorem szT {s : ByteArray} {k : Nat} {ses : Int} {seq er rid sid st step ep : Nat} (h : bs s = vb 10 6 ++ bT k ses seq er rid sid st step ep) : Sz s := by
  have h1 : (bs s).length ≤ 200 := by
    rw [h]
    unfold bT lS
    simp only [List.length_append, List.flatMap_cons, List.flatMap_nil, List.length_nil]
    have a1 := vb_length 10 6
    have a2 := vb_length 10 k
    have a3 := vb_length 10 (foldZ ses).toNat
    have a4 := vb_length 10 seq
    have a5 := vb_length 10 er
    have a6 := vb_length 10 rid
    have a7 := vb_length 10 sid
    have a8 := vb_length 10 st
    have a9 := vb_length 10 step
    have a10 := vb_length 10 ep
    have a11 := vb_length 10 oz.size
    have a12 : (bs oz).length = 4 := by rw [bs_length]; rfl
    omega
  rw [bs_length] at h1
  unfold Sz
  omega
set_option maxHeartbeats 8000000 in
set_option maxRecDepth 100000 in
theorem law_told (w : World) (g : Nat) (n ma ld : Int) (A0 : Option Addr) (cl : Nat) (sq since silent : Int) (h : Value) (fr : Int) (k : Nat) (ses : Int) (seq er rid sid st step ep : Nat)
    (H : Cli w g n ma ld (.slice A0 1 cl) 0 sq since silent h) (hn : 0 ≤ n ∧ n ≤ 100)
    (hk : k ≤ 3) (hses : In ses) (hseq : seq ≤ 2147483647) (her : er ≤ 2147483647) (hrid : rid ≤ 2147483647) (hsid : sid ≤ 2147483647) (hst : st ≤ 2147483647) (hstep : step ≤ 2147483647) (hep : ep ≤ 2147483647)
    (P : World → Prop)
    (HT : ∀ (w7 : World) (A : Option Addr) (c : Nat), Below w.heap.size w w7 → Calls Try.prog 107 #[.pointer (some ⟨g, 0, none⟩), .agg (toldC k ses seq er rid sid st step ep (.slice A 0 c))] w7 fun e w' => e = .returned (.tuple #[]) ∧ P w') :
    Calls Try.prog 65 #[.pointer (some ⟨g, 0, none⟩), .int .i64 fr, .int .i64 (200 + n), .agg (toldC k ses seq er rid sid st step ep (.slice none 0 0))] w fun e w' => e = .returned (.tuple #[]) ∧ P w' := by
  have HH := Aside0.mk H
  have HTT := Aside0.mk HT
  have hlt : g < w.heap.size := blk_lt H
  clear H HT
  obtain ⟨T, hT⟩ : ∃ T, toldC k ses seq er rid sid st step ep (.slice none 0 0) = T := ⟨_, rfl⟩
  rw [hT]
  go_enter Try.func65, Try.ntmps65
  have HB1 := Aside0.mk (below_alloc (Below.refl w.heap.size w) (.cells T 126))
  have HX1 := Aside0.mk (blk_new w (.cells T 126))
  have hT13 : T.size = 13 := by rw [← hT]; rfl
  have HI := Aside0.mk (show (Try.prog.info? 126).map (·.size) = some T.size by rw [hT13]; kernel_rfl)
  have HT := Aside0.mk hT
  clear hT
  go_wp2_with ((with_reducible refine gate_dst (N := 11) rfl ?_); refine wpList_load_row rfl 126 (.tmp 7) rfl w.heap.size rfl 126 T (0, 0) _ HX1.out Try.underlying126 rfl HI.out ?_)
  rw [fold_arr T hT13 (Try.zeroCells192.setIfInBounds 0 (.int .i64 6)) 67]
  have hcs : (putL (z5 6) 67 T.toList).size = 86 := by rw [putL_size, z5_size]
  have hc0 : (putL (z5 6) 67 T.toList)[0]? = some (.int .i64 6) := by rw [putL_out _ _ _ _ (Or.inl (by decide)), z5_zero]
  have hcA : ∀ (j : Nat) v, (toldC k ses seq er rid sid st step ep (.slice none 0 0)).toList[j]? = some v → (putL (z5 6) 67 T.toList)[67 + j]? = some v := fun j v hj => by
    rw [HT.out] at hj
    exact putL_in _ _ _ _ _ (by rw [z5_size, Array.length_toList, hT13]; omega) hj
  change Calls Try.prog 103 #[.agg (putL (z5 6) 67 T.toList)] _ _
  generalize putL (z5 6) 67 T.toList = cs at hcs hc0 hcA ⊢
  refine (encTold_calls _ cs k ses seq er rid sid st step ep hcs hc0 hcA hk hses hseq her hrid hsid hst hstep hep).mono ?_
  rintro e w2 ⟨b, rfl, hbs, hb2⟩
  have HB2 := Aside0.mk (below_then HB1.out HB1.out.size hb2)
  have HC2 := Aside0.mk (show Cli w2 g n ma ld (.slice A0 1 cl) 0 sq since silent h from blk_below (blk_alloc HH.out _) hb2)
  have HBS := Aside0.mk hbs
  clear hbs hb2 hcs hc0 hcA HX1 HB1
  go_wp2_with fail
  refine (handle_told w2 g n ma ld A0 cl sq since silent h fr b k ses seq er rid sid st step ep HC2.out hn HBS.out (szT HBS.out) hk hses hseq her hrid hsid hst hstep hep P (fun w7 A c hb => HTT.out w7 A c (below_then HB2.out HB2.out.size hb))).mono ?_
  rintro e w3 ⟨rfl, hp⟩
  have HP := Aside0.mk hp
  clear hp
  go_wp2_with fail
  go_end0
  exact ⟨rfl, HP.out⟩
end Go.Proofs.Ytbeefbhoccdicaa.CliL
