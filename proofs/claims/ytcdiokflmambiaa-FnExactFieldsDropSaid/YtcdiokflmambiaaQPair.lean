import Derived.Test.YtcdiokflmambiaaPx1
import Derived.Test.YtcdiokflmambiaaQList
/- Plain lemmas on lists of pairs: the law's own helpers (size, copy, equal). -/
namespace Go.Proofs.Ytcdiokflmambiaa.Q
open Go.RowKit Go.Proofs.YtcdiokflmambiaaW.PrintWords Go.Proofs.YtcdiokflmambiaaW.PrintLast Go.Proofs.Ytcdiokflmambiaa.P

abbrev LPair := S76
abbrev Pair := S80
instance : DecidableEq Pair := fun a b => decidable_of_iff (a.f0 = b.f0 ∧ a.f1 = b.f1) ⟨fun h => by cases a; cases b; simp at h; simp [h], fun h => by rw [h]; exact ⟨rfl, rfl⟩⟩
theorem rdLPair_lt (l : List LPair) (i : Nat) (h : i < l.length) : rd_T76 l (i : Int) = l[i] := by
  simp [rd_T76, List.getD_eq_getElem?_getD, h]
theorem rdPair_lt (l : List Pair) (i : Nat) (h : i < l.length) : rd_T80 l (i : Int) = l[i] := by
  simp [rd_T80, List.getD_eq_getElem?_getD, h]
theorem szPair_ev (a b : ByteArray) (ha : a.size ≤ maxLen) (hb : b.size ≤ maxLen) (c : Int) (h0 : 0 ≤ c) (h1 : c ≤ 1048576) :
    ∃ v, laws_szPair.f a b c = some v ∧ v ≤ c ∧ -1 ≤ v ∧ (0 ≤ v → a.size ≤ 1048576 ∧ b.size ≤ 1048576) := by
  unfold maxLen at ha hb
  unfold laws_szPair.f
  rw [wrap_id (x := c - (a.size : Int)) (by omega) (by omega)]
  by_cases h : c - (a.size : Int) < 0
  · exact ⟨-1, if_pos h, by omega, by omega, by omega⟩
  · rw [if_neg h, wrap_id (x := c - (a.size : Int) - (b.size : Int)) (by omega) (by omega)]
    by_cases h' : c - (a.size : Int) - (b.size : Int) < 0
    · exact ⟨-1, if_pos h', by omega, by omega, by omega⟩
    · exact ⟨_, if_neg h', by omega, by omega, fun _ => ⟨by omega, by omega⟩⟩
theorem szPairS_l0 (l : List LPair) (hl : l.length ≤ maxLen) (hs : ∀ s ∈ l, s.f0.size ≤ maxLen ∧ s.f1.size ≤ maxLen) (d : Nat) : ∀ (i : Nat) (c : Int), i + d = l.length → 0 ≤ c → c ≤ 1048576 →
    ∃ v, Ev (fun k => laws_szPairS.l0 k l c (i : Int)) v ∧ v ≤ c ∧ -1 ≤ v ∧ (0 ≤ v → ∀ j (h : j < l.length), i ≤ j → l[j].f0.size ≤ 1048576 ∧ l[j].f1.size ≤ 1048576) := by
  unfold maxLen at hl
  induction d with
  | zero =>
    intro i c hi h0 h1
    exact ⟨c, Ev.step (fun k => by rw [laws_szPairS.l0]) (neg (by omega) (ret c)), by omega, by omega, fun _ j hj hij => by omega⟩
  | succ d ih =>
    intro i c hi h0 h1
    have hlt : i < l.length := by omega
    obtain ⟨hs0, hs1⟩ := hs _ (List.getElem_mem hlt)
    obtain ⟨v, hv, hv1, hv2, hv3⟩ := szPair_ev _ _ hs0 hs1 c h0 h1
    by_cases hneg : v < 0
    · refine ⟨-1, Ev.step (fun k => by rw [laws_szPairS.l0]) (pos (by omega) (pos (by omega) ?_)), by omega, by omega, by omega⟩
      rw [rdLPair_lt _ _ hlt]
      exact Ev.bind (val hv) (pos hneg (ret (-1)))
    · obtain ⟨u, hu, h2, h3, h4⟩ := ih (i + 1) v (by omega) (by omega) (by omega)
      refine ⟨u, Ev.step (fun k => by rw [laws_szPairS.l0]) (pos (by omega) (pos (by omega) ?_)), by omega, h3, fun h5 j hj hij => ?_⟩
      · rw [rdLPair_lt _ _ hlt, wrap_id (x := (i : Int) + 1) (by omega) (by omega)]
        exact Ev.bind (val hv) (neg hneg hu)
      · rcases Nat.eq_or_lt_of_le hij with rfl | hij
        · exact hv3 (by omega)
        · exact h4 h5 j hj hij
theorem szPairS_ev (l : List LPair) (hl : l.length ≤ maxLen) (hs : ∀ s ∈ l, s.f0.size ≤ maxLen ∧ s.f1.size ≤ maxLen) (c : Int) (h0 : 0 ≤ c) (h1 : c ≤ 1048576) :
    ∃ v, Ev (fun k => laws_szPairS.f k l c) v ∧ v ≤ c ∧ -1 ≤ v ∧ (0 ≤ v → l.length ≤ 1048576 ∧ ∀ s ∈ l, s.f0.size ≤ 1048576 ∧ s.f1.size ≤ 1048576) := by
  have hl' := hl
  unfold maxLen at hl'
  by_cases h : c - (l.length : Int) < 0
  · refine ⟨-1, ?_, by omega, by omega, by omega⟩
    unfold laws_szPairS.f
    refine pos ?_ (ret _)
    rw [wrap_id (by omega) (by omega)]
    exact h
  · obtain ⟨v, hv, h2, h3, h4⟩ := szPairS_l0 l hl hs l.length 0 (c - (l.length : Int)) (by omega) (by omega) (by omega)
    refine ⟨v, ?_, by omega, h3, fun h5 => ⟨by omega, fun s hs => ?_⟩⟩
    · unfold laws_szPairS.f
      rw [wrap_id (by omega) (by omega)]
      exact neg h hv
    · obtain ⟨j, hj, rfl⟩ := List.getElem_of_mem hs
      exact h4 h5 j hj (by omega)
/-- The law's pair, as the program's. -/
def cvPair (x : LPair) : Pair := ⟨x.f0, x.f1⟩
theorem toPairS_l0 (l : List LPair) (hl : l.length ≤ maxLen) (d : Nat) : ∀ (i : Nat) (x : List Pair), i + d = l.length → x.length = l.length → Ev (fun k => laws_toPairS.l0 k l x (i : Int)) (x.take i ++ (l.drop i).map cvPair) := by
  unfold maxLen at hl
  induction d with
  | zero =>
    intro i x hi hx
    refine Ev.step (fun k => by rw [laws_toPairS.l0]) (neg (by omega) (ret' ?_))
    rw [List.drop_of_length_le (by omega), List.take_of_length_le (by omega), List.map_nil, List.append_nil]
  | succ d ih =>
    intro i x hi hx
    have hlt : i < l.length := by omega
    refine Ev.step (fun k => by rw [laws_toPairS.l0]) (pos (by omega) (pos (by omega) ?_))
    rw [rdLPair_lt _ _ hlt, wrap_id (by omega) (by omega)]
    refine Ev.bind (val rfl) (pos (by omega) (of_eq (ih (i + 1) _ (by omega) (by simp [hx])) ?_))
    rw [List.drop_eq_getElem_cons hlt, Int.toNat_natCast, List.take_set, List.take_succ_eq_append_getElem (by omega), List.set_append_right _ _ (by simp; omega), List.map_cons]
    simp [show min i x.length = i by omega]
    rfl
theorem toPairS_ev (l : List LPair) (hl : l.length ≤ 1048576) : Ev (fun k => laws_toPairS.f k l) (l.map cvPair) := by
  unfold laws_toPairS.f
  refine pos (by omega) (pos (by omega) ?_)
  exact of_eq (toPairS_l0 l (by unfold maxLen; omega) l.length 0 _ (by omega) (by simp)) (by simp)
theorem eqPair_eq (a b : Pair) : laws_eqPair.f a.f0 a.f1 b.f0 b.f1 = some (decide (a = b)) := by
  unfold laws_eqPair.f
  obtain ⟨a0, a1⟩ := a
  obtain ⟨b0, b1⟩ := b
  by_cases h0 : a0 = b0
  · by_cases h1 : a1 = b1
    · simp [h0, h1]
    · have : ¬ a1.toList = b1.toList := fun e => h1 (toList_inj e)
      simp [h0, h1, this]
  · have : ¬ a0.toList = b0.toList := fun e => h0 (toList_inj e)
    simp [h0, this]
theorem eqPairS_l0 (l l' : List Pair) (hl : l.length ≤ maxLen) (he : l.length = l'.length) (d : Nat) : ∀ (i : Nat), i + d = l.length → Ev (fun k => laws_eqPairS.l0 k l l' (i : Int)) (decide (l.drop i = l'.drop i)) := by
  unfold maxLen at hl
  induction d with
  | zero =>
    intro i hi
    refine Ev.step (fun k => by rw [laws_eqPairS.l0]) (neg (by omega) (ret' ?_))
    rw [List.drop_of_length_le (by omega), List.drop_of_length_le (by omega)]
    simp
  | succ d ih =>
    intro i hi
    have hlt : i < l.length := by omega
    have hlt' : i < l'.length := by omega
    refine Ev.step (fun k => by rw [laws_eqPairS.l0]) (pos (by omega) (pos (by omega) (pos (by omega) ?_)))
    rw [rdPair_lt _ _ hlt, rdPair_lt _ _ hlt', wrap_id (by omega) (by omega), List.drop_eq_getElem_cons hlt, List.drop_eq_getElem_cons hlt']
    refine Ev.bind (val (eqPair_eq _ _)) (both (fun h => ?_) (fun h => ret' ?_))
    · refine of_eq (ih (i + 1) (by omega)) ?_
      rw [of_decide_eq_true h]
      exact decide_eq_decide.2 (by simp only [List.cons.injEq, true_and])
    · exact (decide_eq_false (fun e => h (decide_eq_true (List.cons.inj e).1))).symm
theorem eqPairS_ev (l l' : List Pair) (hl : l.length ≤ maxLen) : Ev (fun k => laws_eqPairS.f k l l') (decide (l = l')) := by
  unfold laws_eqPairS.f
  refine both (fun h => ?_) (fun h => ret' ?_)
  · exact eqPairS_l0 l l' hl (by omega) l.length 0 (by omega)
  · have : l ≠ l' := fun e => h (by rw [e])
    simp [this]
theorem eqPairS_same (l : List Pair) (hl : l.length ≤ maxLen) : Ev (fun k => laws_eqPairS.f k l l) true := of_eq (eqPairS_ev l l hl) (by simp)
end Go.Proofs.Ytcdiokflmambiaa.Q
