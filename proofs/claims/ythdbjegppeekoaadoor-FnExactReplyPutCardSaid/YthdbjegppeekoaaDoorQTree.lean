import Derived.Test.YthdbjegppeekoaaDoorPx1
import Derived.Test.YthdbjegppeekoaaDoorQList
/- Plain lemmas: trees of replies: their weight, their copy, that a tree is equal to itself. No program in sight. -/
namespace Go.Proofs.YthdbjegppeekoaaDoor.Q
open Go.RowKit Go.Proofs.YthdbjegppeekoaaDoorW.PrintWords Go.Proofs.YthdbjegppeekoaaDoorW.PrintLast Go.Proofs.YthdbjegppeekoaaDoor.P

theorem ind25 {C : S25 → Prop} (h : ∀ a b t l m, (∀ y ∈ m, C y) → C ⟨a, b, t, l, m⟩) (x : S25) : C x :=
  S25.rec (motive_1 := C) (motive_2 := fun m => ∀ y ∈ m, C y) (fun a b t l m ih => h a b t l m ih) (fun _ hy => by cases hy) (fun x r hx hr y hy => by
    rcases List.mem_cons.1 hy with rfl | hy
    · exact hx
    · exact hr y hy) x
theorem ind30 {C : S30 → Prop} (h : ∀ a b t l m, (∀ y ∈ m, C y) → C ⟨a, b, t, l, m⟩) (x : S30) : C x :=
  S30.rec (motive_1 := C) (motive_2 := fun m => ∀ y ∈ m, C y) (fun a b t l m ih => h a b t l m ih) (fun _ hy => by cases hy) (fun x r hx hr y hy => by
    rcases List.mem_cons.1 hy with rfl | hy
    · exact hx
    · exact hr y hy) x
theorem eta30 (y : S30) : (⟨y.f0, y.f1, y.f2, y.f3, y.f4⟩ : S30) = y := by
  cases y
  rfl
/-- The bytes of some texts. -/
def szL : List ByteArray → Nat
  | [] => 0
  | s :: r => s.size + szL r
mutual
/-- What a tree weighs. -/
def szT : S25 → Nat
  | ⟨_, _, t, l, m⟩ => t.size + (l.length + szL l) + (m.length + szTs m)
def szTs : List S25 → Nat
  | [] => 0
  | x :: r => szT x + szTs r
end
mutual
def szR : S30 → Nat
  | ⟨_, _, t, l, m⟩ => t.size + (l.length + szL l) + (m.length + szRs m)
def szRs : List S30 → Nat
  | [] => 0
  | x :: r => szR x + szRs r
end
mutual
/-- A tree's copy. -/
def cvT : S25 → S30
  | ⟨a, b, t, l, m⟩ => ⟨a, b, t, l, cvTs m⟩
def cvTs : List S25 → List S30
  | [] => []
  | x :: r => cvT x :: cvTs r
end
mutual
/-- What the form's reader knows of a tree. -/
def OkT : S25 → Prop
  | ⟨a, b, t, l, m⟩ => (Lit.int .i64 a).wf = true ∧ (Lit.int .i64 b).wf = true ∧ t.size ≤ maxLen ∧ (l.length ≤ maxLen ∧ ∀ s ∈ l, s.size ≤ maxLen) ∧ m.length ≤ maxLen ∧ OkTs m
def OkTs : List S25 → Prop
  | [] => True
  | x :: r => OkT x ∧ OkTs r
end
mutual
/-- All numbers of a tree are of 64 bits. -/
def NumT : S30 → Prop
  | ⟨_, b, _, _, m⟩ => (-9223372036854775808 ≤ b ∧ b ≤ 9223372036854775807) ∧ NumTs m
def NumTs : List S30 → Prop
  | [] => True
  | x :: r => NumT x ∧ NumTs r
end
theorem okTs_iff (m : List S25) : OkTs m ↔ ∀ y ∈ m, OkT y := by
  induction m with
  | nil => simp [OkTs]
  | cons x r ih => simp [OkTs, ih]
theorem numTs_iff (m : List S30) : NumTs m ↔ ∀ y ∈ m, NumT y := by
  induction m with
  | nil => simp [NumTs]
  | cons x r ih => simp [NumTs, ih]
theorem cvTs_map (m : List S25) : cvTs m = m.map cvT := by
  induction m with
  | nil => rfl
  | cons x r ih => rw [cvTs, ih, List.map_cons]
theorem szTs_mem {m : List S25} {y : S25} (h : y ∈ m) : szT y ≤ szTs m := by
  induction m with
  | nil => cases h
  | cons x r ih =>
    rw [szTs]
    rcases List.mem_cons.1 h with rfl | h
    · omega
    · have := ih h
      omega
theorem szRs_mem {m : List S30} {y : S30} (h : y ∈ m) : szR y ≤ szRs m := by
  induction m with
  | nil => cases h
  | cons x r ih =>
    rw [szRs]
    rcases List.mem_cons.1 h with rfl | h
    · omega
    · have := ih h
      omega
theorem szL_mem {l : List ByteArray} {s : ByteArray} (h : s ∈ l) : s.size ≤ szL l := by
  induction l with
  | nil => cases h
  | cons x r ih =>
    rw [szL]
    rcases List.mem_cons.1 h with rfl | h
    · omega
    · have := ih h
      omega
theorem szR_cv (x : S25) : szR (cvT x) = szT x := by
  induction x using ind25 with
  | _ a b t l m ih =>
    rw [cvT, szR, szT]
    have e : szRs (cvTs m) = szTs m := by
      induction m with
      | nil => rfl
      | cons y r ihr => rw [cvTs, szRs, szTs, ih y (by simp), ihr (fun z hz => ih z (by simp [hz]))]
    rw [e, cvTs_map, List.length_map]
theorem num_cv (x : S25) : OkT x → NumT (cvT x) := by
  induction x using ind25 with
  | _ a b t l m ih =>
    intro h
    rw [OkT] at h
    obtain ⟨_, hb, _, _, _, hm⟩ := h
    rw [cvT, NumT, numTs_iff, cvTs_map]
    refine ⟨wf64 hb, fun y hy => ?_⟩
    obtain ⟨z, hz, rfl⟩ := List.mem_map.1 hy
    exact ih z hz ((okTs_iff m).1 hm z hz)
/-! The weight, taken off what is left. -/
def subM (c : Int) (n : Nat) : Int := if (n : Int) ≤ c then c - n else -1
theorem subM_pos {c : Int} {n : Nat} (h : (n : Int) ≤ c) : subM c n = c - n := if_pos h
theorem subM_neg {c : Int} {n : Nat} (h : ¬ (n : Int) ≤ c) : subM c n = -1 := if_neg h
theorem szS_l0 (l : List ByteArray) (hl : l.length ≤ maxLen) (hs : ∀ s ∈ l, s.size ≤ maxLen) (d : Nat) : ∀ (i : Nat) (c : Int), i + d = l.length → 0 ≤ c → c ≤ 1048576 → Ev (fun k => laws_szStringS.l0 k l c (i : Int)) (subM c (szL (l.drop i))) := by
  unfold maxLen at hl hs
  induction d with
  | zero =>
    intro i c hi h0 h1
    refine Ev.step (g := fun k => laws_szStringS.l0 k _ _ _) (fun k => by rw [laws_szStringS.l0]) (neg (by omega) (ret' ?_))
    rw [List.drop_of_length_le (by omega), szL, subM_pos (by omega)]
    omega
  | succ d ih =>
    intro i c hi h0 h1
    have hlt : i < l.length := by omega
    have hm := hs _ (List.getElem_mem hlt)
    have e : wrap64 (c - (l[i].size : Int)) = c - (l[i].size : Int) := wrap_id (by omega) (by omega)
    refine Ev.step (g := fun k => laws_szStringS.l0 k _ _ _) (fun k => by rw [laws_szStringS.l0]) (pos (by omega) (pos (by omega) ?_))
    rw [rdOf_lt _ _ _ hlt, e, wrap_id (x := (i : Int) + 1) (by omega) (by omega), List.drop_eq_getElem_cons hlt, szL]
    refine both (fun h => ret' ?_) (fun h => ?_)
    · rw [subM_neg (by omega)]
    · refine of_eq (ih (i + 1) _ (by omega) (by omega) (by omega)) ?_
      unfold subM
      split
      · rw [if_pos (by omega)]
        omega
      · rw [if_neg (by omega)]
theorem szS_ev (l : List ByteArray) (hl : l.length ≤ maxLen) (hs : ∀ s ∈ l, s.size ≤ maxLen) (c : Int) (h0 : 0 ≤ c) (h1 : c ≤ 1048576) : Ev (fun k => laws_szStringS.f k l c) (subM c (l.length + szL l)) := by
  have hl' := hl
  unfold maxLen at hl'
  unfold laws_szStringS.f
  rw [wrap_id (by omega) (by omega)]
  refine both (fun h => ret' ?_) (fun h => ?_)
  · rw [subM_neg (by omega)]
  · refine of_eq (szS_l0 l hl hs l.length 0 _ (by omega) (by omega) (by omega)) ?_
    rw [List.drop_zero]
    unfold subM
    split
    · rw [if_pos (by omega)]
      omega
    · rw [if_neg (by omega)]
theorem rd25 (l : List S25) (i : Nat) (h : i < l.length) : rd_T25 l (i : Int) = l[i] := by
  simp [rd_T25, List.getD_eq_getElem?_getD, h]
theorem rd30 (l : List S30) (i : Nat) (h : i < l.length) : rd_T30 l (i : Int) = l[i] := by
  simp [rd_T30, List.getD_eq_getElem?_getD, h]
theorem szT_l0 (m : List S25) (hl : m.length ≤ maxLen) (hs : ∀ y ∈ m, ∀ c : Int, 0 ≤ c → c ≤ 1048576 → Ev (fun k => laws_szReply.f k y.f0 y.f1 y.f2 y.f3 y.f4 c) (subM c (szT y))) (d : Nat) :
    ∀ (i : Nat) (c : Int), i + d = m.length → 0 ≤ c → c ≤ 1048576 → Ev (fun k => laws_szReplyS.l0 k m c (i : Int)) (subM c (szTs (m.drop i))) := by
  unfold maxLen at hl
  induction d with
  | zero =>
    intro i c hi h0 h1
    refine Ev.step (g := fun k => laws_szReplyS.l0 k _ _ _) (fun k => by rw [laws_szReplyS.l0]) (neg (by omega) (ret' ?_))
    rw [List.drop_of_length_le (by omega), szTs, subM_pos (by omega)]
    omega
  | succ d ih =>
    intro i c hi h0 h1
    have hlt : i < m.length := by omega
    have hm := hs _ (List.getElem_mem hlt) c h0 h1
    refine Ev.step (g := fun k => laws_szReplyS.l0 k _ _ _) (fun k => by rw [laws_szReplyS.l0]) (pos (by omega) (pos (by omega) ?_))
    rw [rd25 _ _ hlt, wrap_id (x := (i : Int) + 1) (by omega) (by omega), List.drop_eq_getElem_cons hlt, szTs]
    refine Ev.bind hm ?_
    by_cases h : ((szT m[i] : Nat) : Int) ≤ c
    · rw [subM_pos h]
      refine neg (by omega) (of_eq (ih (i + 1) _ (by omega) (by omega) (by omega)) ?_)
      unfold subM
      split
      · rw [if_pos (by omega)]
        omega
      · rw [if_neg (by omega)]
    · rw [subM_neg h]
      refine pos (by decide) (ret' ?_)
      rw [subM_neg (by omega)]
theorem szT_ev (x : S25) : OkT x → ∀ c : Int, 0 ≤ c → c ≤ 1048576 → Ev (fun k => laws_szReply.f k x.f0 x.f1 x.f2 x.f3 x.f4 c) (subM c (szT x)) := by
  induction x using ind25 with
  | _ a b t l m ih =>
    intro h c h0 h1
    rw [OkT] at h
    obtain ⟨_, _, ht, ⟨hl, hs⟩, hm, hms⟩ := h
    have ht' := ht
    have hm' := hm
    unfold maxLen at ht' hm'
    rw [szT]
    show Ev (fun k => laws_szReply.f k a b t l m c) _
    refine Ev.step (g := fun k => laws_szReply.f k _ _ _ _ _ _) (fun k => by rw [laws_szReply.f]) ?_
    rw [wrap_id (by omega) (by omega)]
    refine both (fun h => ret' ?_) (fun h => ?_)
    · rw [subM_neg (by omega)]
    have hS := szS_ev l hl hs (c - (t.size : Int)) (by omega) (by omega)
    refine Ev.bind hS ?_
    by_cases h2 : ((l.length + szL l : Nat) : Int) ≤ c - (t.size : Int)
    case neg =>
      rw [subM_neg h2]
      refine pos (by decide) (ret' ?_)
      rw [subM_neg (by omega)]
    rw [subM_pos h2, wrap_id (by omega) (by omega)]
    refine neg (by omega) ?_
    have fin : Ev (fun k => if c - (t.size : Int) - ((l.length + szL l : Nat) : Int) - (m.length : Int) < 0 then some (-1) else laws_szReplyS.l0 k m (c - (t.size : Int) - ((l.length + szL l : Nat) : Int) - (m.length : Int)) 0) (subM c (t.size + (l.length + szL l) + (m.length + szTs m))) := by
      refine both (fun h => ret' ?_) (fun h => ?_)
      · rw [subM_neg (by omega)]
      · refine of_eq (szT_l0 m hm (fun y hy => ih y hy ((okTs_iff m).1 hms y hy)) m.length 0 _ (by omega) (by omega) (by omega)) ?_
        rw [List.drop_zero]
        unfold subM
        split
        · rw [if_pos (by omega)]
          omega
        · rw [if_neg (by omega)]
    refine Ev.bind fin (both (fun h => ret' ?_) (fun _ => ret _))
    unfold subM at h ⊢
    split
    · rename_i h3
      rw [if_pos h3] at h
      omega
    · rfl
/-! The copy. -/
theorem toT_l0 (m : List S25) (hl : m.length ≤ 1048576) (hs : ∀ y ∈ m, Ev (fun k => laws_toReply.f k y.f0 y.f1 y.f2 y.f3 y.f4) ((cvT y).f0, (cvT y).f1, (cvT y).f2, (cvT y).f3, (cvT y).f4)) (d : Nat) :
    ∀ (i : Nat) (x : List S30), i + d = m.length → x.length = m.length → Ev (fun k => laws_toReplyS.l0 k m x (i : Int)) (x.take i ++ (m.drop i).map cvT) := by
  induction d with
  | zero =>
    intro i x hi hx
    refine Ev.step (g := fun k => laws_toReplyS.l0 k _ _ _) (fun k => by rw [laws_toReplyS.l0]) (neg (by omega) (ret' ?_))
    rw [List.drop_of_length_le (by omega), List.take_of_length_le (by omega), List.map_nil, List.append_nil]
  | succ d ih =>
    intro i x hi hx
    have hlt : i < m.length := by omega
    refine Ev.step (g := fun k => laws_toReplyS.l0 k _ _ _) (fun k => by rw [laws_toReplyS.l0]) (pos (by omega) (pos (by omega) ?_))
    rw [rd25 _ _ hlt, wrap_id (by omega) (by omega)]
    refine Ev.bind (hs _ (List.getElem_mem hlt)) (pos (by omega) ?_)
    refine of_eq (ih (i + 1) _ (by omega) (by simp [hx])) ?_
    rw [List.drop_eq_getElem_cons hlt, Int.toNat_natCast, List.take_set, List.take_succ_eq_append_getElem (by omega), List.set_append_right _ _ (by simp; omega), List.map_cons]
    simp only [List.length_take, show min i x.length = i by omega, Nat.sub_self, List.set_cons_zero, List.append_assoc, List.cons_append, List.nil_append]
    rw [eta30]
theorem toT_ev (x : S25) : szT x ≤ 1048576 → Ev (fun k => laws_toReply.f k x.f0 x.f1 x.f2 x.f3 x.f4) ((cvT x).f0, (cvT x).f1, (cvT x).f2, (cvT x).f3, (cvT x).f4) := by
  induction x using ind25 with
  | _ a b t l m ih =>
    intro h
    rw [szT] at h
    rw [cvT]
    refine Ev.step (g := fun k => laws_toReply.f k _ _ _ _ _) (fun k => by rw [laws_toReply.f]) ?_
    refine Ev.bind (toStringS_ev l (by omega)) ?_
    have hm : Ev (fun k => if 0 ≤ (m.length : Int) then (if ((m.length : Int) : Int).toNat ≤ 3518437208883 then laws_toReplyS.l0 k m (List.replicate ((m.length : Int) : Int).toNat z30) 0 else none) else none) (cvTs m) := by
      refine pos (by omega) (pos (by omega) ?_)
      refine of_eq (toT_l0 m (by omega) (fun y hy => ih y hy (by have := szTs_mem hy; omega)) m.length 0 _ (by omega) (by simp)) ?_
      rw [List.take_zero, List.drop_zero, List.nil_append, cvTs_map]
    exact Ev.bind hm (ret _)
/-! A tree is equal to itself. -/
theorem eqT_l0 (m : List S30) (hl : m.length ≤ 1048576) (hs : ∀ y ∈ m, Ev (fun k => laws_eqReply.f k y.f0 y.f1 y.f2 y.f3 y.f4 y.f0 y.f1 y.f2 y.f3 y.f4) true) (d : Nat) :
    ∀ (i : Nat), i + d = m.length → Ev (fun k => laws_eqReplyS.l0 k m m (i : Int)) true := by
  induction d with
  | zero =>
    intro i hi
    exact Ev.step (g := fun k => laws_eqReplyS.l0 k _ _ _) (fun k => by rw [laws_eqReplyS.l0]) (neg (by omega) (ret _))
  | succ d ih =>
    intro i hi
    have hlt : i < m.length := by omega
    refine Ev.step (g := fun k => laws_eqReplyS.l0 k _ _ _) (fun k => by rw [laws_eqReplyS.l0]) (pos (by omega) (pos (by omega) (pos (by omega) ?_)))
    rw [rd30 _ _ hlt, wrap_id (by omega) (by omega)]
    exact Ev.bind (hs _ (List.getElem_mem hlt)) (pos rfl (ih (i + 1) (by omega)))
theorem eqT_same (x : S30) : szR x ≤ 1048576 → Ev (fun k => laws_eqReply.f k x.f0 x.f1 x.f2 x.f3 x.f4 x.f0 x.f1 x.f2 x.f3 x.f4) true := by
  induction x using ind30 with
  | _ a b t l m ih =>
    intro h
    rw [szR] at h
    refine Ev.step (g := fun k => laws_eqReply.f k _ _ _ _ _ _ _ _ _ _) (fun k => by rw [laws_eqReply.f]) (pos rfl (pos rfl (pos rfl ?_)))
    refine Ev.bind (eqStringS_same l (by unfold maxLen; omega)) (pos rfl ?_)
    have hm : Ev (fun k => if (m.length : Int) = (m.length : Int) then laws_eqReplyS.l0 k m m 0 else some false) true :=
      pos rfl (eqT_l0 m (by omega) (fun y hy => ih y hy (by have := szRs_mem hy; omega)) m.length 0 (by omega))
    exact Ev.bind hm (pos rfl (ret _))
end Go.Proofs.YthdbjegppeekoaaDoor.Q
