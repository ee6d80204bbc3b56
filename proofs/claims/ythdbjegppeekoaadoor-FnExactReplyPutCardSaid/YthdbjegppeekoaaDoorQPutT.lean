import Derived.Test.YthdbjegppeekoaaDoorPx1
import Derived.Test.YthdbjegppeekoaaDoorQTree
import Derived.Test.YthdbjegppeekoaaDoorQNum64
/- Plain lemmas: ReplyPut of the program and of the reference write a tree of replies in the same way; the plain law. No program in sight. -/
namespace Go.Proofs.YthdbjegppeekoaaDoor.Q
open Go.RowKit Go.Proofs.YthdbjegppeekoaaDoorW.PrintWords Go.Proofs.YthdbjegppeekoaaDoorW.PrintLast Go.Proofs.YthdbjegppeekoaaDoor.P

abbrev crlf : ByteArray := (⟨#[13, 10]⟩ : ByteArray)
/-- Some texts, one behind the other. -/
def catL : List ByteArray → ByteArray
  | [] => ByteArray.empty
  | s :: r => bR s ++ catL r
mutual
/-- A reply as it is written. -/
def outT : S30 → ByteArray
  | ⟨a, b, t, l, m⟩ =>
    if a = 1 then ((⟨#[45]⟩ : ByteArray) ++ t) ++ (⟨#[13, 10]⟩ : ByteArray)
    else if a = 2 then ((⟨#[58]⟩ : ByteArray) ++ iS b) ++ (⟨#[13, 10]⟩ : ByteArray)
    else if a = 3 then bR t
    else if a = 4 then (⟨#[36, 45, 49, 13, 10]⟩ : ByteArray)
    else if a = 5 then (((⟨#[42]⟩ : ByteArray) ++ dS l.length) ++ (⟨#[13, 10]⟩ : ByteArray)) ++ catL l
    else if a = 6 then (((⟨#[42]⟩ : ByteArray) ++ dS m.length) ++ (⟨#[13, 10]⟩ : ByteArray)) ++ outTs m
    else (⟨#[43, 79, 75, 13, 10]⟩ : ByteArray)
def outTs : List S30 → ByteArray
  | [] => ByteArray.empty
  | y :: r => outT y ++ outTs r
end
theorem z0 : ByteArray.empty.size = 0 := rfl
theorem catL_size (l : List ByteArray) : szL l ≤ 1048576 → (catL l).size ≤ 25 * l.length + szL l := by
  induction l with
  | nil =>
    intro _
    exact Nat.zero_le _
  | cons s r ih =>
    intro h
    rw [szL] at h ⊢
    have h1 := bR_size s (by omega)
    have h2 := ih (by omega)
    rw [catL, ByteArray.size_append, List.length_cons]
    omega
theorem outTs_size (m : List S30) (hs : ∀ y ∈ m, (outT y).size ≤ 64 + 64 * szR y) : (outTs m).size ≤ 64 * m.length + 64 * szRs m := by
  induction m with
  | nil => exact Nat.zero_le _
  | cons y r ih =>
    have h1 := hs y (by simp)
    have h2 := ih (fun z hz => hs z (by simp [hz]))
    rw [outTs, szRs, ByteArray.size_append, List.length_cons]
    omega
theorem outT_size (x : S30) : NumT x → szR x ≤ 1048576 → (outT x).size ≤ 64 + 64 * szR x := by
  induction x using ind30 with
  | _ a b t l m ih =>
    intro hn h
    rw [NumT, numTs_iff] at hn
    rw [szR] at h ⊢
    obtain ⟨⟨n0, n1⟩, hn⟩ := hn
    have hi := iS_size b n0 n1
    have hd := dS_size l.length (by omega)
    have hd' := dS_size m.length (by omega)
    have hb := bR_size t (by omega)
    have hc := catL_size l (by omega)
    have hm := outTs_size m (fun y hy => ih y hy (hn y hy) (by have := szRs_mem hy; omega))
    rw [outT]
    split
    · simp only [ByteArray.size_append, zb, zc]
      omega
    split
    · simp only [ByteArray.size_append, zb, zc]
      omega
    split
    · omega
    split
    · show 5 ≤ _
      omega
    split
    · simp only [ByteArray.size_append, zb, zc]
      omega
    split
    · simp only [ByteArray.size_append, zb, zc]
      omega
    · show 5 ≤ _
      omega
theorem szL_drop {l : List ByteArray} {i : Nat} (h : i < l.length) : szL (l.drop i) = l[i].size + szL (l.drop (i + 1)) := by rw [List.drop_eq_getElem_cons h, szL]
theorem szRs_drop {l : List S30} {i : Nat} (h : i < l.length) : szRs (l.drop i) = szR l[i] + szRs (l.drop (i + 1)) := by rw [List.drop_eq_getElem_cons h, szRs]
theorem szL_le (l : List ByteArray) (i : Nat) : szL (l.drop i) ≤ szL l := by
  induction l generalizing i with
  | nil => simp
  | cons s r ih =>
    cases i with
    | zero => exact Nat.le_refl _
    | succ i =>
      have := ih i
      rw [szL, List.drop_succ_cons]
      omega
/-! Texts. -/
theorem impl_texts (l : List ByteArray) (hl : l.length ≤ 1048576) (hs : szL l ≤ 1048576) (d : Nat) : ∀ (i : Nat) (x : ByteArray), i + d = l.length → x.size + 25 * d + szL (l.drop i) ≤ 1099511627776 → Ev (fun k => impl_ReplyPut.l0 k x l (l.length : Int) (i : Int)) (x ++ catL (l.drop i)) := by
  induction d with
  | zero =>
    intro i x hi hx
    refine Ev.step (g := fun k => impl_ReplyPut.l0 k _ _ _ _) (fun k => by rw [impl_ReplyPut.l0]) (neg (by omega) (ret' ?_))
    rw [List.drop_of_length_le (by omega), catL, ByteArray.append_empty]
  | succ d ih =>
    intro i x hi hx
    have hlt : i < l.length := by omega
    have hm := szL_mem (List.getElem_mem hlt)
    have hb := bR_size l[i] (by omega)
    rw [szL_drop hlt] at hx
    refine Ev.step (g := fun k => impl_ReplyPut.l0 k _ _ _ _) (fun k => by rw [impl_ReplyPut.l0]) (pos (by omega) (pos (by omega) (pos (by omega) ?_)))
    rw [rdOf_lt _ _ _ hlt, wrap_id (x := (i : Int) + 1) (by omega) (by omega), List.drop_eq_getElem_cons hlt, catL, ← ByteArray.append_assoc]
    exact Ev.bind (impl_bulkR _ (by omega)) (pos (by omega) (ih (i + 1) _ (by omega) (by rw [ByteArray.size_append]; omega)))
theorem spec_texts (a b : Int) (t : ByteArray) (m : List S30) (l : List ByteArray) (hl : l.length ≤ 1048576) (hs : szL l ≤ 1048576) (d : Nat) : ∀ (i : Nat) (x : ByteArray), i + d = l.length → x.size + 25 * d + szL (l.drop i) ≤ 1099511627776 → Ev (fun k => spec_ReplyPut.l0 k x (i : Int) a b t l m) (x ++ catL (l.drop i)) := by
  induction d with
  | zero =>
    intro i x hi hx
    refine Ev.step (g := fun k => spec_ReplyPut.l0 k _ _ _ _ _ _ _) (fun k => by rw [spec_ReplyPut.l0]) (neg (by omega) (ret' ?_))
    rw [List.drop_of_length_le (by omega), catL, ByteArray.append_empty]
  | succ d ih =>
    intro i x hi hx
    have hlt : i < l.length := by omega
    have hm := szL_mem (List.getElem_mem hlt)
    have hb := bR_size l[i] (by omega)
    rw [szL_drop hlt] at hx
    refine Ev.step (g := fun k => spec_ReplyPut.l0 k _ _ _ _ _ _ _) (fun k => by rw [spec_ReplyPut.l0]) (pos (by omega) (pos (by omega) ?_))
    rw [rdOf_lt _ _ _ hlt, wrap_id (x := (i : Int) + 1) (by omega) (by omega), List.drop_eq_getElem_cons hlt, catL, ← ByteArray.append_assoc]
    exact Ev.bind (spec_bulkR _ (by omega)) (pos (by omega) (ih (i + 1) _ (by omega) (by rw [ByteArray.size_append]; omega)))
/-! Replies. -/
theorem impl_many (m : List S30) (hl : m.length ≤ 1048576) (hz : ∀ y ∈ m, (outT y).size ≤ 64 + 64 * szR y) (hs : ∀ y ∈ m, Ev (fun k => impl_ReplyPut.f k y.f0 y.f1 y.f2 y.f3 y.f4) (outT y)) (d : Nat) :
    ∀ (i : Nat) (x : ByteArray), i + d = m.length → x.size + 64 * d + 64 * szRs (m.drop i) ≤ 1099511627776 → Ev (fun k => impl_ReplyPut.l1 k x m (m.length : Int) (i : Int)) (x ++ outTs (m.drop i)) := by
  induction d with
  | zero =>
    intro i x hi hx
    refine Ev.step (g := fun k => impl_ReplyPut.l1 k _ _ _ _) (fun k => by rw [impl_ReplyPut.l1]) (neg (by omega) (ret' ?_))
    rw [List.drop_of_length_le (by omega), outTs, ByteArray.append_empty]
  | succ d ih =>
    intro i x hi hx
    have hlt : i < m.length := by omega
    have hb := hz _ (List.getElem_mem hlt)
    rw [szRs_drop hlt] at hx
    refine Ev.step (g := fun k => impl_ReplyPut.l1 k _ _ _ _) (fun k => by rw [impl_ReplyPut.l1]) (pos (by omega) (pos (by omega) (pos (by omega) ?_)))
    rw [rd30 _ _ hlt, wrap_id (x := (i : Int) + 1) (by omega) (by omega), List.drop_eq_getElem_cons hlt, outTs, ← ByteArray.append_assoc]
    exact Ev.bind (hs _ (List.getElem_mem hlt)) (pos (by omega) (ih (i + 1) _ (by omega) (by rw [ByteArray.size_append]; omega)))
theorem spec_many (a b : Int) (t : ByteArray) (l : List ByteArray) (m : List S30) (hl : m.length ≤ 1048576) (hz : ∀ y ∈ m, (outT y).size ≤ 64 + 64 * szR y) (hs : ∀ y ∈ m, Ev (fun k => spec_ReplyPut.f k y.f0 y.f1 y.f2 y.f3 y.f4) (outT y)) (d : Nat) :
    ∀ (i : Nat) (x : ByteArray), i + d = m.length → x.size + 64 * d + 64 * szRs (m.drop i) ≤ 1099511627776 → Ev (fun k => spec_ReplyPut.l1 k x (i : Int) a b t l m) (x ++ outTs (m.drop i)) := by
  induction d with
  | zero =>
    intro i x hi hx
    refine Ev.step (g := fun k => spec_ReplyPut.l1 k _ _ _ _ _ _ _) (fun k => by rw [spec_ReplyPut.l1]) (neg (by omega) (ret' ?_))
    rw [List.drop_of_length_le (by omega), outTs, ByteArray.append_empty]
  | succ d ih =>
    intro i x hi hx
    have hlt : i < m.length := by omega
    have hb := hz _ (List.getElem_mem hlt)
    rw [szRs_drop hlt] at hx
    refine Ev.step (g := fun k => spec_ReplyPut.l1 k _ _ _ _ _ _ _) (fun k => by rw [spec_ReplyPut.l1]) (pos (by omega) (pos (by omega) ?_))
    rw [rd30 _ _ hlt, wrap_id (x := (i : Int) + 1) (by omega) (by omega), List.drop_eq_getElem_cons hlt, outTs, ← ByteArray.append_assoc]
    exact Ev.bind (hs _ (List.getElem_mem hlt)) (pos (by omega) (ih (i + 1) _ (by omega) (by rw [ByteArray.size_append]; omega)))
/-! A reply. -/
theorem impl_put (x : S30) : NumT x → szR x ≤ 1048576 → Ev (fun k => impl_ReplyPut.f k x.f0 x.f1 x.f2 x.f3 x.f4) (outT x) := by
  induction x using ind30 with
  | _ a b t l m ih =>
    intro hn h
    rw [NumT, numTs_iff] at hn
    rw [szR] at h
    obtain ⟨⟨n0, n1⟩, hn⟩ := hn
    have hi := iS_size b n0 n1
    have hd := dS_size l.length (by omega)
    have hd' := dS_size m.length (by omega)
    rw [outT]
    show Ev (fun k => impl_ReplyPut.f k a b t l m) _
    refine Ev.step (g := fun k => impl_ReplyPut.f k _ _ _ _ _) (fun k => by rw [impl_ReplyPut.f]) ?_
    refine both (fun h => ?_) (fun h => ?_)
    · rw [if_pos h]
      exact pos (by omega) (pos (by rw [ByteArray.size_append, zb]; omega) (ret _))
    rw [if_neg h]
    refine both (fun h => ?_) (fun h => ?_)
    · rw [if_pos h]
      exact Ev.bind (val (itoa_int _ n0 n1)) (pos (by omega) (pos (by rw [ByteArray.size_append, zb]; omega) (ret _)))
    rw [if_neg h]
    refine both (fun h => ?_) (fun h => ?_)
    · rw [if_pos h]
      exact Ev.bind (impl_bulkR _ (by omega)) (ret _)
    rw [if_neg h]
    refine both (fun h => ?_) (fun h => ?_)
    · rw [if_pos h]
      exact ret _
    rw [if_neg h]
    refine both (fun h => ?_) (fun h => ?_)
    · rw [if_pos h]
      refine Ev.bind (val (itoa_nat _ (by omega))) (pos (by omega) (pos (by rw [ByteArray.size_append, zb]; omega) ?_))
      exact impl_texts l (by omega) (by omega) l.length 0 _ (by omega) (by simp only [ByteArray.size_append, zb, zc, List.drop_zero]; omega)
    rw [if_neg h]
    refine both (fun h => ?_) (fun h => ?_)
    · rw [if_pos h]
      refine Ev.bind (val (itoa_nat _ (by omega))) (pos (by omega) (pos (by rw [ByteArray.size_append, zb]; omega) ?_))
      exact impl_many m (by omega) (fun y hy => outT_size y (hn y hy) (by have := szRs_mem hy; omega)) (fun y hy => ih y hy (hn y hy) (by have := szRs_mem hy; omega)) m.length 0 _ (by omega) (by simp only [ByteArray.size_append, zb, zc, List.drop_zero]; omega)
    · rw [if_neg h]
      exact ret _
theorem spec_put (x : S30) : NumT x → szR x ≤ 1048576 → Ev (fun k => spec_ReplyPut.f k x.f0 x.f1 x.f2 x.f3 x.f4) (outT x) := by
  induction x using ind30 with
  | _ a b t l m ih =>
    intro hn h
    rw [NumT, numTs_iff] at hn
    rw [szR] at h
    obtain ⟨⟨n0, n1⟩, hn⟩ := hn
    have hi := iS_size b n0 n1
    have hd := dS_size l.length (by omega)
    have hd' := dS_size m.length (by omega)
    rw [outT]
    show Ev (fun k => spec_ReplyPut.f k a b t l m) _
    refine Ev.step (g := fun k => spec_ReplyPut.f k _ _ _ _ _) (fun k => by rw [spec_ReplyPut.f]) ?_
    refine both (fun h => ?_) (fun h => ?_)
    · rw [if_pos h]
      exact pos (by omega) (pos (by rw [ByteArray.size_append, zb]; omega) (ret _))
    rw [if_neg h]
    refine both (fun h => ?_) (fun h => ?_)
    · rw [if_pos h]
      exact Ev.bind (dec_int _ n0 n1) (pos (by omega) (pos (by rw [ByteArray.size_append, zb]; omega) (ret _)))
    rw [if_neg h]
    refine both (fun h => ?_) (fun h => ?_)
    · rw [if_pos h]
      exact Ev.bind (spec_bulkR _ (by omega)) (ret _)
    rw [if_neg h]
    refine both (fun h => ?_) (fun h => ?_)
    · rw [if_pos h]
      exact ret _
    rw [if_neg h]
    refine both (fun h => ?_) (fun h => ?_)
    · rw [if_pos h]
      refine Ev.bind (dec_nat _ (by omega)) (pos (by omega) (pos (by rw [ByteArray.size_append, zb]; omega) ?_))
      exact spec_texts _ _ _ _ l (by omega) (by omega) l.length 0 _ (by omega) (by simp only [ByteArray.size_append, zb, zc, List.drop_zero]; omega)
    rw [if_neg h]
    refine both (fun h => ?_) (fun h => ?_)
    · rw [if_pos h]
      refine Ev.bind (dec_nat _ (by omega)) (pos (by omega) (pos (by rw [ByteArray.size_append, zb]; omega) ?_))
      exact spec_many _ _ _ _ m (by omega) (fun y hy => outT_size y (hn y hy) (by have := szRs_mem hy; omega)) (fun y hy => ih y hy (hn y hy) (by have := szRs_mem hy; omega)) m.length 0 _ (by omega) (by simp only [ByteArray.size_append, zb, zc, List.drop_zero]; omega)
    · rw [if_neg h]
      exact ret _
end Go.Proofs.YthdbjegppeekoaaDoor.Q
