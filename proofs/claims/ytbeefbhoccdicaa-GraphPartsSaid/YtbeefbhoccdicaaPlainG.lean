/- What was put is taken again: plain words. -/
import Derived.Test.YtbeefbhoccdicaaDecG
namespace Go.Proofs.Ytbeefbhoccdicaa.PlainG
open Go.RowKit Go.Proofs.YtbeefbhoccdicaaW.PrintWords Go.Proofs.YtbeefbhoccdicaaW.PrintLast Go.Proofs.YtbeefbhoccdicaaW.PrintMore Go.Proofs.Ytbeefbhoccdicaa.QGraphReads Go.Proofs.Ytbeefbhoccdicaa.PlainV Go.Proofs.Ytbeefbhoccdicaa.WireNum Go.Proofs.Ytbeefbhoccdicaa.WireRead Go.Proofs.Ytbeefbhoccdicaa.Writer Go.Proofs.Ytbeefbhoccdicaa.PutG Go.Proofs.Ytbeefbhoccdicaa.FindG Go.Proofs.Ytbeefbhoccdicaa.EdgesG Go.Proofs.Ytbeefbhoccdicaa.AllG Go.Proofs.Ytbeefbhoccdicaa.CheckG Go.Proofs.Ytbeefbhoccdicaa.EncG Go.Proofs.Ytbeefbhoccdicaa.RdSpec Go.Proofs.Ytbeefbhoccdicaa.TakeG Go.Proofs.Ytbeefbhoccdicaa.DecG
set_option linter.unusedVariables false

theorem bs_append (a b : ByteArray) : bs (a ++ b) = bs a ++ bs b := by simp [bs]
theorem bs_inj {a b : ByteArray} (h : bs a = bs b) : a = b := by
  apply ByteArray.ext
  apply Array.ext'
  have hl : ∀ l m : List UInt8, l.map (fun b => b.toNat) = m.map (fun b => b.toNat) → l = m := by
    intro l
    induction l with
    | nil => intro m hm; cases m with
      | nil => rfl
      | cons a t => cases hm
    | cons a t ih => intro m hm; cases m with
      | nil => cases hm
      | cons c u =>
        rw [List.map_cons, List.map_cons] at hm
        injection hm with h1 h2
        rw [ih u h2, UInt8.toNat_inj.1 h1]
  exact hl _ _ h
theorem bs_nums : ∀ l : List Nat, (∀ b ∈ l, b < 256) → bs (strOfNums (ints l)) = l := by
  intro l h
  have e : ∀ l : List Nat, (∀ b ∈ l, b < 256) → (((ints l).map fun n => UInt8.ofNat n.toNat)).map (fun b => b.toNat) = l := by
    intro l
    induction l with
    | nil => intro _; rfl
    | cons a t ih =>
      intro h
      have ha := h a (List.mem_cons_self ..)
      rw [ints_cons, List.map_cons, List.map_cons, ih (fun b hb => h b (List.mem_cons_of_mem _ hb)), Int.toNat_natCast, UInt8.toNat_ofNat_of_lt' ha]
  exact e l h
theorem bs_num (n : Nat) : bs (numStr n) = vb 10 n := bs_nums _ (vb_byte 10 n)

def lS (z : Int) : List Nat := vb 10 (foldZ z).toNat
def lE (es : List S67) : List Nat := es.flatMap fun e => lS e.f0 ++ lS e.f1
def lV (v : S53) : List Nat := lS v.f0 ++ (lS v.f1 ++ (vb 10 v.f2.length ++ lE v.f2))
def lG (l : List S53) : List Nat := vb 10 l.length ++ l.flatMap lV
theorem bs_sgn (z : Int) : bs (sgnStr z) = lS z := bs_num _
theorem bs_edges : ∀ (es : List S67) (b : ByteArray), bs (putEdges b es) = bs b ++ lE es := by
  intro es
  induction es with
  | nil => intro b; simp [putEdges, lE]
  | cons e t ih =>
    intro b
    have h := ih (b ++ sgnStr e.f0 ++ sgnStr e.f1)
    rw [bs_append, bs_append, bs_sgn, bs_sgn] at h
    show bs (putEdges (b ++ sgnStr e.f0 ++ sgnStr e.f1) t) = _
    rw [h]
    simp [lE]
theorem bs_vert (b : ByteArray) (v : S53) : bs (putVertex b v) = bs b ++ lV v := by
  unfold putVertex
  rw [bs_edges, bs_append, bs_append, bs_append, bs_sgn, bs_sgn, bs_num]
  simp [lV]
theorem bs_verts : ∀ (l : List S53) (b : ByteArray), bs (putVerts b l) = bs b ++ l.flatMap lV := by
  intro l
  induction l with
  | nil => intro b; simp [putVerts]
  | cons v t ih =>
    intro b
    have h := ih (putVertex b v)
    rw [bs_vert] at h
    show bs (putVerts (putVertex b v) t) = _
    rw [h, List.flatMap_cons, List.append_assoc]
theorem bs_graph (l : List S53) : bs (graphBytes l) = lG l := by
  unfold graphBytes
  rw [bs_verts, bs_append, bs_num]
  rfl

theorem drop_more {l x r : List Nat} {p : Nat} (h : l.drop p = x ++ r) : l.drop (p + x.length) = r := by
  rw [← List.drop_drop, h, List.drop_left]

theorem num_at {s : ByteArray} {p n : Nat} {r : List Nat} (h : (bs s).drop p = vb 10 n ++ r) (hn : n < 18446744073709551616) : numS s ⟨p, 0⟩ = (n, ⟨p + (vb 10 n).length, 0⟩) := by
  unfold numS
  rw [if_pos rfl, h, rdv_vb 9 n true r (Nat.lt_of_lt_of_le hn (by decide)) (.inl rfl)]
theorem sgn_at {s : ByteArray} {p : Nat} {z : Int} {r : List Nat} (h : (bs s).drop p = lS z ++ r) (hz : In z) : sgnS s ⟨p, 0⟩ = (z, ⟨p + (lS z).length, 0⟩) := by
  have hu := fold_un hz
  have hu' := hu
  unfold Un at hu'
  unfold sgnS
  rw [num_at h (by omega)]
  simp only
  rw [Int.toNat_of_nonneg hu'.1, unfold_fold]
  rfl
theorem cnt_at {s : ByteArray} {p n m : Nat} {r : List Nat} (h : (bs s).drop p = vb 10 n ++ r) (hn : n ≤ m) (hm : m ≤ 100000) : cntS s m ⟨p, 0⟩ = (n, ⟨p + (vb 10 n).length, 0⟩) := by
  unfold cntS
  rw [num_at h (by omega), if_pos rfl, if_neg (by simp only; omega)]

def rawE (e : S67) : Int × Int := (e.f0, e.f1)
def rawV (v : S53) : Int × Int × List (Int × Int) := (v.f0, v.f1, v.f2.map rawE)
theorem v53_raw (v : S53) : v53 (rawV v) = v := by
  obtain ⟨a, b, es⟩ := v
  unfold v53 rawV
  simp only [List.map_map]
  congr 1
  exact List.map_id'' (fun e => rfl) es

theorem edges_at (s : ByteArray) : ∀ (es : List S67) (p : Nat) (r : List Nat) (acc : List (Int × Int)), (bs s).drop p = lE es ++ r → (∀ e ∈ es, EdgeIn e) →
    edgesS s es.length ⟨p, 0⟩ acc = (acc ++ es.map rawE, ⟨p + (lE es).length, 0⟩) := by
  intro es
  induction es with
  | nil => intro p r acc h hi; simp [edgesS, lE]
  | cons e t ih =>
    intro p r acc h hi
    have he := hi e (List.mem_cons_self ..)
    have hE : lE (e :: t) = lS e.f0 ++ (lS e.f1 ++ lE t) := by simp [lE]
    rw [hE] at h ⊢
    rw [List.append_assoc] at h
    have h1 := sgn_at h he.1
    have h' := drop_more h
    rw [List.append_assoc] at h'
    have h2 := sgn_at h' he.2
    have h3 := drop_more h'
    rw [List.length_cons, edgesS, if_pos rfl, h1]
    simp only
    rw [h2]
    simp only
    rw [ih _ r _ h3 (fun x hx => hi x (List.mem_cons_of_mem _ hx))]
    simp [rawE, Nat.add_assoc]

theorem vert_at (s : ByteArray) (v : S53) (p : Nat) (r : List Nat) (h : (bs s).drop p = lV v ++ r) (hi : VertIn v) (hl : v.f2.length ≤ 2048) :
    vertS s ⟨p, 0⟩ = (rawV v, ⟨p + (lV v).length, 0⟩) := by
  have hV : lV v ++ r = lS v.f0 ++ (lS v.f1 ++ (vb 10 v.f2.length ++ (lE v.f2 ++ r))) := by simp [lV]
  rw [hV] at h
  have h1 := sgn_at h hi.1
  have h' := drop_more h
  have h2 := sgn_at h' hi.2.1
  have h'' := drop_more h'
  have h3 := cnt_at h'' hl (by decide)
  have h''' := drop_more h''
  have h4 := edges_at s v.f2 _ r [] h''' hi.2.2
  unfold vertS
  simp only [h1, h2, h3, h4]
  simp [rawV, lV, Nat.add_assoc]

theorem verts_at (s : ByteArray) : ∀ (l : List S53) (p : Nat) (r : List Nat) (acc : List (Int × Int × List (Int × Int))), (bs s).drop p = l.flatMap lV ++ r → (∀ v ∈ l, VertIn v ∧ v.f2.length ≤ 2048) →
    vertsS s l.length ⟨p, 0⟩ acc = (acc ++ l.map rawV, ⟨p + (l.flatMap lV).length, 0⟩) := by
  intro l
  induction l with
  | nil => intro p r acc h hi; simp [vertsS]
  | cons v t ih =>
    intro p r acc h hi
    have hv := hi v (List.mem_cons_self ..)
    rw [List.flatMap_cons, List.append_assoc] at h
    have h1 := vert_at s v p _ h hv.1 hv.2
    have h' := drop_more h
    rw [List.length_cons, vertsS, if_pos rfl, h1]
    simp only
    rw [ih _ r _ h' (fun x hx => hi x (List.mem_cons_of_mem _ hx))]
    simp [Nat.add_assoc]

theorem take_at (s : ByteArray) (l : List S53) (p : Nat) (r : List Nat) (h : (bs s).drop p = lG l ++ r) (hi : ∀ v ∈ l, VertIn v ∧ v.f2.length ≤ 2048) (hl : l.length ≤ 256) :
    takeS s ⟨p, 0⟩ = (l.map rawV, ⟨p + (lG l).length, 0⟩) := by
  unfold lG at h
  rw [List.append_assoc] at h
  have h1 := cnt_at h hl (by decide)
  have h2 := verts_at s l _ r [] (drop_more h) hi
  unfold takeS
  simp only [h1]
  rw [h2]
  simp [lG, Nat.add_assoc]
theorem map_raw (l : List S53) : (l.map rawV).map v53 = l := by
  rw [List.map_map]
  exact List.map_id'' v53_raw l
end Go.Proofs.Ytbeefbhoccdicaa.PlainG
