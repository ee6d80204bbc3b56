import Derived.Test.YtnkgmcgbbldkgaaPrFnExactBaseGet5
/- Texts of this claim, one behind the other: words on worlds and rows, printed functions and their walks, plain lemmas. -/
namespace Go.Proofs.Ytnkgmcgbbldkgaa.Q
open Go.RowKit Go.Proofs.YtnkgmcgbbldkgaaW.PrintWords Go.Proofs.YtnkgmcgbbldkgaaW.PrintLast Go.Proofs.Ytnkgmcgbbldkgaa.P
abbrev LScore := S95
abbrev Score := S99
instance : DecidableEq Score := fun a b => decidable_of_iff (a.f0 = b.f0 ∧ a.f1 = b.f1) ⟨fun h => by cases a; cases b; simp at h; simp [h], fun h => by rw [h]; exact ⟨rfl, rfl⟩⟩
theorem rdLScore_lt (l : List LScore) (i : Nat) (h : i < l.length) : rd_T95 l (i : Int) = l[i] := by
  simp [rd_T95, List.getD_eq_getElem?_getD, h]
theorem rdScore_lt (l : List Score) (i : Nat) (h : i < l.length) : rd_T99 l (i : Int) = l[i] := by
  simp [rd_T99, List.getD_eq_getElem?_getD, h]
theorem szScore_ev (a : ByteArray) (n : Int) (ha : a.size ≤ maxLen) (c : Int) (h0 : 0 ≤ c) (h1 : c ≤ 1048576) :
    ∃ v, laws_szScore.f a n c = some v ∧ v ≤ c ∧ -1 ≤ v ∧ (0 ≤ v → a.size ≤ 1048576) := by
  unfold maxLen at ha
  unfold laws_szScore.f
  rw [wrap_id (x := c - (a.size : Int)) (by omega) (by omega)]
  by_cases h : c - (a.size : Int) < 0
  · exact ⟨-1, if_pos h, by omega, by omega, by omega⟩
  · exact ⟨_, if_neg h, by omega, by omega, fun _ => by omega⟩
theorem szScoreS_l0 (l : List LScore) (hl : l.length ≤ maxLen) (hs : ∀ s ∈ l, s.f0.size ≤ maxLen ∧ (Lit.int .i64 s.f1).wf = true) (d : Nat) : ∀ (i : Nat) (c : Int), i + d = l.length → 0 ≤ c → c ≤ 1048576 →
    ∃ v, Ev (fun k => laws_szScoreS.l0 k l c (i : Int)) v ∧ v ≤ c ∧ -1 ≤ v ∧ (0 ≤ v → ∀ j (h : j < l.length), i ≤ j → l[j].f0.size ≤ 1048576) := by
  unfold maxLen at hl
  induction d with
  | zero =>
    intro i c hi h0 h1
    exact ⟨c, Ev.step (fun k => by rw [laws_szScoreS.l0]) (neg (by omega) (ret c)), by omega, by omega, fun _ j hj hij => by omega⟩
  | succ d ih =>
    intro i c hi h0 h1
    have hlt : i < l.length := by omega
    obtain ⟨hs0, _⟩ := hs _ (List.getElem_mem hlt)
    obtain ⟨v, hv, hv1, hv2, hv3⟩ := szScore_ev _ l[i].f1 hs0 c h0 h1
    by_cases hneg : v < 0
    · refine ⟨-1, Ev.step (fun k => by rw [laws_szScoreS.l0]) (pos (by omega) (pos (by omega) ?_)), by omega, by omega, by omega⟩
      rw [rdLScore_lt _ _ hlt]
      exact Ev.bind (val hv) (pos hneg (ret (-1)))
    · obtain ⟨u, hu, h2, h3, h4⟩ := ih (i + 1) v (by omega) (by omega) (by omega)
      refine ⟨u, Ev.step (fun k => by rw [laws_szScoreS.l0]) (pos (by omega) (pos (by omega) ?_)), by omega, h3, fun h5 j hj hij => ?_⟩
      · rw [rdLScore_lt _ _ hlt, wrap_id (x := (i : Int) + 1) (by omega) (by omega)]
        exact Ev.bind (val hv) (neg hneg hu)
      · rcases Nat.eq_or_lt_of_le hij with rfl | hij
        · exact hv3 (by omega)
        · exact h4 h5 j hj hij
theorem szScoreS_ev (l : List LScore) (hl : l.length ≤ maxLen) (hs : ∀ s ∈ l, s.f0.size ≤ maxLen ∧ (Lit.int .i64 s.f1).wf = true) (c : Int) (h0 : 0 ≤ c) (h1 : c ≤ 1048576) :
    ∃ v, Ev (fun k => laws_szScoreS.f k l c) v ∧ v ≤ c ∧ -1 ≤ v ∧ (0 ≤ v → l.length ≤ 1048576 ∧ ∀ s ∈ l, s.f0.size ≤ 1048576) := by
  have hl' := hl
  unfold maxLen at hl'
  by_cases h : c - (l.length : Int) < 0
  · refine ⟨-1, ?_, by omega, by omega, by omega⟩
    unfold laws_szScoreS.f
    refine pos ?_ (ret _)
    rw [wrap_id (by omega) (by omega)]
    exact h
  · obtain ⟨v, hv, h2, h3, h4⟩ := szScoreS_l0 l hl hs l.length 0 (c - (l.length : Int)) (by omega) (by omega) (by omega)
    refine ⟨v, ?_, by omega, h3, fun h5 => ⟨by omega, fun s hs => ?_⟩⟩
    · unfold laws_szScoreS.f
      rw [wrap_id (by omega) (by omega)]
      exact neg h hv
    · obtain ⟨j, hj, rfl⟩ := List.getElem_of_mem hs
      exact h4 h5 j hj (by omega)
def cvScore (x : LScore) : Score := ⟨x.f0, x.f1⟩
theorem toScoreS_l0 (l : List LScore) (hl : l.length ≤ maxLen) (d : Nat) : ∀ (i : Nat) (x : List Score), i + d = l.length → x.length = l.length → Ev (fun k => laws_toScoreS.l0 k l x (i : Int)) (x.take i ++ (l.drop i).map cvScore) := by
  unfold maxLen at hl
  induction d with
  | zero =>
    intro i x hi hx
    refine Ev.step (fun k => by rw [laws_toScoreS.l0]) (neg (by omega) (ret' ?_))
    rw [List.drop_of_length_le (by omega), List.take_of_length_le (by omega), List.map_nil, List.append_nil]
  | succ d ih =>
    intro i x hi hx
    have hlt : i < l.length := by omega
    refine Ev.step (fun k => by rw [laws_toScoreS.l0]) (pos (by omega) (pos (by omega) ?_))
    rw [rdLScore_lt _ _ hlt, wrap_id (by omega) (by omega)]
    refine Ev.bind (val rfl) (pos (by omega) (of_eq (ih (i + 1) _ (by omega) (by simp [hx])) ?_))
    rw [List.drop_eq_getElem_cons hlt, Int.toNat_natCast, List.take_set, List.take_succ_eq_append_getElem (by omega), List.set_append_right _ _ (by simp; omega), List.map_cons]
    simp [show min i x.length = i by omega]
    rfl
theorem toScoreS_ev (l : List LScore) (hl : l.length ≤ 1048576) : Ev (fun k => laws_toScoreS.f k l) (l.map cvScore) := by
  unfold laws_toScoreS.f
  refine pos (by omega) (pos (by omega) ?_)
  exact of_eq (toScoreS_l0 l (by unfold maxLen; omega) l.length 0 _ (by omega) (by simp)) (by simp)
theorem eqScore_eq (a b : Score) : laws_eqScore.f a.f0 a.f1 b.f0 b.f1 = some (decide (a = b)) := by
  unfold laws_eqScore.f
  obtain ⟨a0, a1⟩ := a
  obtain ⟨b0, b1⟩ := b
  by_cases h0 : a0 = b0
  · by_cases h1 : a1 = b1
    · simp [h0, h1]
    · simp [h0, h1]
  · have : ¬ a0.toList = b0.toList := fun e => h0 (toList_inj e)
    simp [h0, this]
theorem eqScoreS_l0 (l l' : List Score) (hl : l.length ≤ maxLen) (he : l.length = l'.length) (d : Nat) : ∀ (i : Nat), i + d = l.length → Ev (fun k => laws_eqScoreS.l0 k l l' (i : Int)) (decide (l.drop i = l'.drop i)) := by
  unfold maxLen at hl
  induction d with
  | zero =>
    intro i hi
    refine Ev.step (fun k => by rw [laws_eqScoreS.l0]) (neg (by omega) (ret' ?_))
    rw [List.drop_of_length_le (by omega), List.drop_of_length_le (by omega)]
    simp
  | succ d ih =>
    intro i hi
    have hlt : i < l.length := by omega
    have hlt' : i < l'.length := by omega
    refine Ev.step (fun k => by rw [laws_eqScoreS.l0]) (pos (by omega) (pos (by omega) (pos (by omega) ?_)))
    rw [rdScore_lt _ _ hlt, rdScore_lt _ _ hlt', wrap_id (by omega) (by omega), List.drop_eq_getElem_cons hlt, List.drop_eq_getElem_cons hlt']
    refine Ev.bind (val (eqScore_eq _ _)) (both (fun h => ?_) (fun h => ret' ?_))
    · refine of_eq (ih (i + 1) (by omega)) ?_
      rw [of_decide_eq_true h]
      exact decide_eq_decide.2 (by simp only [List.cons.injEq, true_and])
    · exact (decide_eq_false (fun e => h (decide_eq_true (List.cons.inj e).1))).symm
theorem eqScoreS_ev (l l' : List Score) (hl : l.length ≤ maxLen) : Ev (fun k => laws_eqScoreS.f k l l') (decide (l = l')) := by
  unfold laws_eqScoreS.f
  refine both (fun h => ?_) (fun h => ret' ?_)
  · exact eqScoreS_l0 l l' hl (by omega) l.length 0 (by omega)
  · have : l ≠ l' := fun e => h (by rw [e])
    simp [this]
theorem eqScoreS_same (l : List Score) (hl : l.length ≤ maxLen) : Ev (fun k => laws_eqScoreS.f k l l) true := of_eq (eqScoreS_ev l l hl) (by simp)
noncomputable def marksS (n : Int) (m : Nat) : List Score := (List.range m).map fun (j : Nat) => ⟨markT (n + 2 * (j : Int)), n + 2 * (j : Int) + 1⟩
theorem marksS_length (n : Int) (m : Nat) : (marksS n m).length = m := by simp [marksS]
theorem marksS_get (n : Int) (m j : Nat) (h : j < (marksS n m).length) : (marksS n m)[j] = ⟨markT (n + 2 * j), n + 2 * j + 1⟩ := by simp [marksS]
theorem marksS_succ (n : Int) (m : Nat) : marksS n (m + 1) = marksS n m ++ [⟨markT (n + 2 * m), n + 2 * m + 1⟩] := by simp [marksS, List.range_succ]
theorem markScoreS_l0 (n : Int) (m : Nat) (h0 : 0 ≤ n) (h1 : n + 2 * m ≤ 9223372036854775806) (d : Nat) : ∀ (i : Nat) (x : List Score), i + d = m → x.length = m → x.take i = marksS n i →
    Ev (fun k => laws_markScoreS.l0 k x (n + 2 * i) (i : Int)) (n + 2 * m, marksS n m) := by
  induction d with
  | zero =>
    intro i x hi hx ht
    refine Ev.step (g := fun k => laws_markScoreS.l0 k _ _ _) (fun k => by rw [laws_markScoreS.l0]) (neg (by omega) (ret' ?_))
    obtain rfl : i = m := by omega
    rw [List.take_of_length_le (by omega)] at ht
    rw [ht]
  | succ d ih =>
    intro i x hi hx ht
    have hlt : i < x.length := by omega
    refine Ev.step (g := fun k => laws_markScoreS.l0 k _ _ _) (fun k => by rw [laws_markScoreS.l0]) (pos (by omega) (Ev.bind (markT_ev _ (by omega)) ?_))
    refine pos (by omega) (Ev.bind (ret _) ?_)
    rw [wrap_id (x := n + 2 * (i : Int) + 1) (by omega) (by omega), wrap_id (x := n + 2 * (i : Int) + 1 + 1) (by omega) (by omega), wrap_id (x := (i : Int) + 1) (by omega) (by omega)]
    rw [Int.toNat_natCast, rdScore_lt _ _ hlt, rdScore_lt _ _ (by simp; omega)]
    have := ih (i + 1) (x.set i ⟨markT (n + 2 * i), n + 2 * i + 1⟩) (by omega) (by simp [hx]) (by
      rw [List.take_succ_eq_append_getElem (by simp; omega), marksS_succ, List.take_set_of_le (Nat.le_refl _), ht]
      simp)
    rw [show (n + 2 * (i : Int) + 1 + 1) = n + 2 * ((i + 1 : Nat) : Int) by omega, List.set_set, List.getElem_set_self]
    exact this
theorem markScoreS_ev (l : List Score) (n : Int) (h0 : 0 ≤ n) (h1 : n + 2 * l.length ≤ 9223372036854775806) : Ev (fun k => laws_markScoreS.f k l n) (n + 2 * l.length, marksS n l.length) := by
  have := markScoreS_l0 n l.length h0 h1 l.length 0 l (by omega) rfl (by simp [marksS])
  simpa [laws_markScoreS.f] using this
theorem heldScoreS_l0 (n : Int) (m : Nat) (h0 : 0 ≤ n) (h1 : n + 2 * m ≤ 9223372036854775806) (d : Nat) : ∀ (i : Nat), i + d = m →
    Ev (fun k => laws_heldScoreS.l0 k (marksS n m) (n + 2 * i) (i : Int)) (n + 2 * m) := by
  have hm := marksS_length n m
  induction d with
  | zero =>
    intro i hi
    obtain rfl : i = m := by omega
    exact Ev.step (g := fun k => laws_heldScoreS.l0 k _ _ _) (fun k => by rw [laws_heldScoreS.l0]) (neg (by omega) (ret' rfl))
  | succ d ih =>
    intro i hi
    refine Ev.step (g := fun k => laws_heldScoreS.l0 k _ _ _) (fun k => by rw [laws_heldScoreS.l0]) (pos (by omega) (pos (by omega) ?_))
    rw [wrap_id (x := n + 2 * (i : Int) + 1) (by omega) (by omega), wrap_id (x := n + 2 * (i : Int) + 1 + 1) (by omega) (by omega), wrap_id (x := (i : Int) + 1) (by omega) (by omega), rdScore_lt _ _ (by omega), marksS_get]
    refine Ev.bind (markT_ev _ (by omega)) (pos rfl (pos rfl ?_))
    have := ih (i + 1) (by omega)
    rw [show (n + 2 * (i : Int) + 1 + 1) = n + 2 * ((i + 1 : Nat) : Int) by omega]
    exact this
theorem heldScoreS_ev (n : Int) (m : Nat) (h0 : 0 ≤ n) (h1 : n + 2 * m ≤ 9223372036854775806) : Ev (fun k => laws_heldScoreS.f k (marksS n m) n) (n + 2 * m) := by
  have := heldScoreS_l0 n m h0 h1 m 0 (by omega)
  simpa [laws_heldScoreS.f] using this
abbrev LPair := S98
abbrev Pair := S101
instance : DecidableEq Pair := fun a b => decidable_of_iff (a.f0 = b.f0 ∧ a.f1 = b.f1) ⟨fun h => by cases a; cases b; simp at h; simp [h], fun h => by rw [h]; exact ⟨rfl, rfl⟩⟩
theorem rdLPair_lt (l : List LPair) (i : Nat) (h : i < l.length) : rd_T98 l (i : Int) = l[i] := by
  simp [rd_T98, List.getD_eq_getElem?_getD, h]
theorem rdPair_lt (l : List Pair) (i : Nat) (h : i < l.length) : rd_T101 l (i : Int) = l[i] := by
  simp [rd_T101, List.getD_eq_getElem?_getD, h]
theorem szPair_ev (a b : ByteArray) (ha : a.size ≤ maxLen) (hb : b.size ≤ maxLen) (c : Int) (h0 : 0 ≤ c) (h1 : c ≤ 1048576) :
    ∃ v, laws_szPair.f a b c = some v ∧ v ≤ c ∧ -1 ≤ v ∧ (0 ≤ v → a.size ≤ 1048576 ∧ b.size ≤ 1048576) := by
  unfold maxLen at ha hb
  unfold laws_szPair.f
  rw [wrap_id (x := c - (a.size : Int)) (by omega) (by omega)]
  by_cases h : c - (a.size : Int) < 0
  · exact ⟨-1, if_pos h, by omega, by omega, by omega⟩
  · rw [if_neg h, wrap_id (x := c - (a.size : Int) - (b.size : Int)) (by omega) (by omega)]
    by_cases h' : c - (a.size : Int) - (b.size : Int) < 0
    · exact ⟨-1, if_pos h', by omega, by omega, by omega⟩
    · exact ⟨_, if_neg h', by omega, by omega, fun _ => ⟨by omega, by omega⟩⟩
theorem szPairS_l0 (l : List LPair) (hl : l.length ≤ maxLen) (hs : ∀ s ∈ l, s.f0.size ≤ maxLen ∧ s.f1.size ≤ maxLen) (d : Nat) : ∀ (i : Nat) (c : Int), i + d = l.length → 0 ≤ c → c ≤ 1048576 →
    ∃ v, Ev (fun k => laws_szPairS.l0 k l c (i : Int)) v ∧ v ≤ c ∧ -1 ≤ v ∧ (0 ≤ v → ∀ j (h : j < l.length), i ≤ j → l[j].f0.size ≤ 1048576 ∧ l[j].f1.size ≤ 1048576) := by
  unfold maxLen at hl
  induction d with
  | zero =>
    intro i c hi h0 h1
    exact ⟨c, Ev.step (fun k => by rw [laws_szPairS.l0]) (neg (by omega) (ret c)), by omega, by omega, fun _ j hj hij => by omega⟩
  | succ d ih =>
    intro i c hi h0 h1
    have hlt : i < l.length := by omega
    obtain ⟨hs0, hs1⟩ := hs _ (List.getElem_mem hlt)
    obtain ⟨v, hv, hv1, hv2, hv3⟩ := szPair_ev _ _ hs0 hs1 c h0 h1
    by_cases hneg : v < 0
    · refine ⟨-1, Ev.step (fun k => by rw [laws_szPairS.l0]) (pos (by omega) (pos (by omega) ?_)), by omega, by omega, by omega⟩
      rw [rdLPair_lt _ _ hlt]
      exact Ev.bind (val hv) (pos hneg (ret (-1)))
    · obtain ⟨u, hu, h2, h3, h4⟩ := ih (i + 1) v (by omega) (by omega) (by omega)
      refine ⟨u, Ev.step (fun k => by rw [laws_szPairS.l0]) (pos (by omega) (pos (by omega) ?_)), by omega, h3, fun h5 j hj hij => ?_⟩
      · rw [rdLPair_lt _ _ hlt, wrap_id (x := (i : Int) + 1) (by omega) (by omega)]
        exact Ev.bind (val hv) (neg hneg hu)
      · rcases Nat.eq_or_lt_of_le hij with rfl | hij
        · exact hv3 (by omega)
        · exact h4 h5 j hj hij
theorem szPairS_ev (l : List LPair) (hl : l.length ≤ maxLen) (hs : ∀ s ∈ l, s.f0.size ≤ maxLen ∧ s.f1.size ≤ maxLen) (c : Int) (h0 : 0 ≤ c) (h1 : c ≤ 1048576) :
    ∃ v, Ev (fun k => laws_szPairS.f k l c) v ∧ v ≤ c ∧ -1 ≤ v ∧ (0 ≤ v → l.length ≤ 1048576 ∧ ∀ s ∈ l, s.f0.size ≤ 1048576 ∧ s.f1.size ≤ 1048576) := by
  have hl' := hl
  unfold maxLen at hl'
  by_cases h : c - (l.length : Int) < 0
  · refine ⟨-1, ?_, by omega, by omega, by omega⟩
    unfold laws_szPairS.f
    refine pos ?_ (ret _)
    rw [wrap_id (by omega) (by omega)]
    exact h
  · obtain ⟨v, hv, h2, h3, h4⟩ := szPairS_l0 l hl hs l.length 0 (c - (l.length : Int)) (by omega) (by omega) (by omega)
    refine ⟨v, ?_, by omega, h3, fun h5 => ⟨by omega, fun s hs => ?_⟩⟩
    · unfold laws_szPairS.f
      rw [wrap_id (by omega) (by omega)]
      exact neg h hv
    · obtain ⟨j, hj, rfl⟩ := List.getElem_of_mem hs
      exact h4 h5 j hj (by omega)
def cvPair (x : LPair) : Pair := ⟨x.f0, x.f1⟩
theorem toPairS_l0 (l : List LPair) (hl : l.length ≤ maxLen) (d : Nat) : ∀ (i : Nat) (x : List Pair), i + d = l.length → x.length = l.length → Ev (fun k => laws_toPairS.l0 k l x (i : Int)) (x.take i ++ (l.drop i).map cvPair) := by
  unfold maxLen at hl
  induction d with
  | zero =>
    intro i x hi hx
    refine Ev.step (fun k => by rw [laws_toPairS.l0]) (neg (by omega) (ret' ?_))
    rw [List.drop_of_length_le (by omega), List.take_of_length_le (by omega), List.map_nil, List.append_nil]
  | succ d ih =>
    intro i x hi hx
    have hlt : i < l.length := by omega
    refine Ev.step (fun k => by rw [laws_toPairS.l0]) (pos (by omega) (pos (by omega) ?_))
    rw [rdLPair_lt _ _ hlt, wrap_id (by omega) (by omega)]
    refine Ev.bind (val rfl) (pos (by omega) (of_eq (ih (i + 1) _ (by omega) (by simp [hx])) ?_))
    rw [List.drop_eq_getElem_cons hlt, Int.toNat_natCast, List.take_set, List.take_succ_eq_append_getElem (by omega), List.set_append_right _ _ (by simp; omega), List.map_cons]
    simp [show min i x.length = i by omega]
    rfl
theorem toPairS_ev (l : List LPair) (hl : l.length ≤ 1048576) : Ev (fun k => laws_toPairS.f k l) (l.map cvPair) := by
  unfold laws_toPairS.f
  refine pos (by omega) (pos (by omega) ?_)
  exact of_eq (toPairS_l0 l (by unfold maxLen; omega) l.length 0 _ (by omega) (by simp)) (by simp)
theorem eqPair_eq (a b : Pair) : laws_eqPair.f a.f0 a.f1 b.f0 b.f1 = some (decide (a = b)) := by
  unfold laws_eqPair.f
  obtain ⟨a0, a1⟩ := a
  obtain ⟨b0, b1⟩ := b
  by_cases h0 : a0 = b0
  · by_cases h1 : a1 = b1
    · simp [h0, h1]
    · have : ¬ a1.toList = b1.toList := fun e => h1 (toList_inj e)
      simp [h0, h1, this]
  · have : ¬ a0.toList = b0.toList := fun e => h0 (toList_inj e)
    simp [h0, this]
theorem eqPairS_l0 (l l' : List Pair) (hl : l.length ≤ maxLen) (he : l.length = l'.length) (d : Nat) : ∀ (i : Nat), i + d = l.length → Ev (fun k => laws_eqPairS.l0 k l l' (i : Int)) (decide (l.drop i = l'.drop i)) := by
  unfold maxLen at hl
  induction d with
  | zero =>
    intro i hi
    refine Ev.step (fun k => by rw [laws_eqPairS.l0]) (neg (by omega) (ret' ?_))
    rw [List.drop_of_length_le (by omega), List.drop_of_length_le (by omega)]
    simp
  | succ d ih =>
    intro i hi
    have hlt : i < l.length := by omega
    have hlt' : i < l'.length := by omega
    refine Ev.step (fun k => by rw [laws_eqPairS.l0]) (pos (by omega) (pos (by omega) (pos (by omega) ?_)))
    rw [rdPair_lt _ _ hlt, rdPair_lt _ _ hlt', wrap_id (by omega) (by omega), List.drop_eq_getElem_cons hlt, List.drop_eq_getElem_cons hlt']
    refine Ev.bind (val (eqPair_eq _ _)) (both (fun h => ?_) (fun h => ret' ?_))
    · refine of_eq (ih (i + 1) (by omega)) ?_
      rw [of_decide_eq_true h]
      exact decide_eq_decide.2 (by simp only [List.cons.injEq, true_and])
    · exact (decide_eq_false (fun e => h (decide_eq_true (List.cons.inj e).1))).symm
theorem eqPairS_ev (l l' : List Pair) (hl : l.length ≤ maxLen) : Ev (fun k => laws_eqPairS.f k l l') (decide (l = l')) := by
  unfold laws_eqPairS.f
  refine both (fun h => ?_) (fun h => ret' ?_)
  · exact eqPairS_l0 l l' hl (by omega) l.length 0 (by omega)
  · have : l ≠ l' := fun e => h (by rw [e])
    simp [this]
theorem eqPairS_same (l : List Pair) (hl : l.length ≤ maxLen) : Ev (fun k => laws_eqPairS.f k l l) true := of_eq (eqPairS_ev l l hl) (by simp)
noncomputable def marksP (n : Int) (m : Nat) : List Pair := (List.range m).map fun (j : Nat) => ⟨markT (n + 2 * (j : Int)), markT (n + 2 * (j : Int) + 1)⟩
theorem marksP_length (n : Int) (m : Nat) : (marksP n m).length = m := by simp [marksP]
theorem marksP_get (n : Int) (m j : Nat) (h : j < (marksP n m).length) : (marksP n m)[j] = ⟨markT (n + 2 * j), markT (n + 2 * j + 1)⟩ := by simp [marksP]
theorem marksP_succ (n : Int) (m : Nat) : marksP n (m + 1) = marksP n m ++ [⟨markT (n + 2 * m), markT (n + 2 * m + 1)⟩] := by simp [marksP, List.range_succ]
theorem markPairS_l0 (n : Int) (m : Nat) (h0 : 0 ≤ n) (h1 : n + 2 * m ≤ 9223372036854775806) (d : Nat) : ∀ (i : Nat) (x : List Pair), i + d = m → x.length = m → x.take i = marksP n i →
    Ev (fun k => laws_markPairS.l0 k x (n + 2 * i) (i : Int)) (n + 2 * m, marksP n m) := by
  induction d with
  | zero =>
    intro i x hi hx ht
    refine Ev.step (g := fun k => laws_markPairS.l0 k _ _ _) (fun k => by rw [laws_markPairS.l0]) (neg (by omega) (ret' ?_))
    obtain rfl : i = m := by omega
    rw [List.take_of_length_le (by omega)] at ht
    rw [ht]
  | succ d ih =>
    intro i x hi hx ht
    have hlt : i < x.length := by omega
    refine Ev.step (g := fun k => laws_markPairS.l0 k _ _ _) (fun k => by rw [laws_markPairS.l0]) (pos (by omega) (Ev.bind (markT_ev _ (by omega)) ?_))
    refine pos (by omega) (Ev.bind (ret _) ?_)
    rw [wrap_id (x := n + 2 * (i : Int) + 1) (by omega) (by omega), wrap_id (x := n + 2 * (i : Int) + 1 + 1) (by omega) (by omega), wrap_id (x := (i : Int) + 1) (by omega) (by omega)]
    refine Ev.bind (markT_ev _ (by omega)) ?_
    rw [Int.toNat_natCast, rdPair_lt _ _ hlt, rdPair_lt _ _ (by simp; omega)]
    have := ih (i + 1) (x.set i ⟨markT (n + 2 * i), markT (n + 2 * i + 1)⟩) (by omega) (by simp [hx]) (by
      rw [List.take_succ_eq_append_getElem (by simp; omega), marksP_succ, List.take_set_of_le (Nat.le_refl _), ht]
      simp)
    rw [show (n + 2 * (i : Int) + 1 + 1) = n + 2 * ((i + 1 : Nat) : Int) by omega, List.set_set, List.getElem_set_self]
    exact this
theorem markPairS_ev (l : List Pair) (n : Int) (h0 : 0 ≤ n) (h1 : n + 2 * l.length ≤ 9223372036854775806) : Ev (fun k => laws_markPairS.f k l n) (n + 2 * l.length, marksP n l.length) := by
  have := markPairS_l0 n l.length h0 h1 l.length 0 l (by omega) rfl (by simp [marksP])
  simpa [laws_markPairS.f] using this
theorem heldPairS_l0 (n : Int) (m : Nat) (h0 : 0 ≤ n) (h1 : n + 2 * m ≤ 9223372036854775806) (d : Nat) : ∀ (i : Nat), i + d = m →
    Ev (fun k => laws_heldPairS.l0 k (marksP n m) (n + 2 * i) (i : Int)) (n + 2 * m) := by
  have hm := marksP_length n m
  induction d with
  | zero =>
    intro i hi
    obtain rfl : i = m := by omega
    exact Ev.step (g := fun k => laws_heldPairS.l0 k _ _ _) (fun k => by rw [laws_heldPairS.l0]) (neg (by omega) (ret' rfl))
  | succ d ih =>
    intro i hi
    refine Ev.step (g := fun k => laws_heldPairS.l0 k _ _ _) (fun k => by rw [laws_heldPairS.l0]) (pos (by omega) (pos (by omega) ?_))
    rw [wrap_id (x := n + 2 * (i : Int) + 1) (by omega) (by omega), wrap_id (x := n + 2 * (i : Int) + 1 + 1) (by omega) (by omega), wrap_id (x := (i : Int) + 1) (by omega) (by omega), rdPair_lt _ _ (by omega), marksP_get]
    refine Ev.bind (markT_ev _ (by omega)) (pos rfl (Ev.bind (markT_ev _ (by omega)) (pos rfl ?_)))
    have := ih (i + 1) (by omega)
    rw [show (n + 2 * (i : Int) + 1 + 1) = n + 2 * ((i + 1 : Nat) : Int) by omega]
    exact this
theorem heldPairS_ev (n : Int) (m : Nat) (h0 : 0 ≤ n) (h1 : n + 2 * m ≤ 9223372036854775806) : Ev (fun k => laws_heldPairS.f k (marksP n m) n) (n + 2 * m) := by
  have := heldPairS_l0 n m h0 h1 m 0 (by omega)
  simpa [laws_heldPairS.f] using this
end Go.Proofs.Ytnkgmcgbbldkgaa.Q
namespace Go.Proofs.Ytnkgmcgbbldkgaa.Q
open Go.RowKit Go.Proofs.YtnkgmcgbbldkgaaW.PrintWords Go.Proofs.YtnkgmcgbbldkgaaW.PrintLast
theorem bl_irrefl (a : List UInt8) : Op.bytesLess a a = false := by
  induction a with
  | nil => rfl
  | cons x r ih => simp [Op.bytesLess, ih]
theorem bl_trans (a : List UInt8) : ∀ (b c : List UInt8), Op.bytesLess a b = true → Op.bytesLess b c = true → Op.bytesLess a c = true := by
  induction a with
  | nil =>
    intro b c h1 h2
    cases c with
    | nil => cases b <;> simp [Op.bytesLess] at h2
    | cons z c => rfl
  | cons x a ih =>
    intro b c h1 h2
    cases b with
    | nil => simp [Op.bytesLess] at h1
    | cons y b =>
      cases c with
      | nil => simp [Op.bytesLess] at h2
      | cons z c =>
        simp only [Op.bytesLess, Bool.or_eq_true, Bool.and_eq_true, decide_eq_true_eq, beq_iff_eq] at h1 h2 ⊢
        rcases h1 with h1 | ⟨rfl, h1⟩
        · rcases h2 with h2 | ⟨rfl, h2⟩
          · exact .inl (UInt8.lt_trans h1 h2)
          · exact .inl h1
        · rcases h2 with h2 | ⟨rfl, h2⟩
          · exact .inl h2
          · exact .inr ⟨rfl, ih b c h1 h2⟩
theorem bl_tri (a : List UInt8) : ∀ (b : List UInt8), Op.bytesLess a b = true ∨ a = b ∨ Op.bytesLess b a = true := by
  induction a with
  | nil =>
    intro b
    cases b with
    | nil => exact .inr (.inl rfl)
    | cons y b => exact .inl rfl
  | cons x a ih =>
    intro b
    cases b with
    | nil => exact .inr (.inr rfl)
    | cons y b =>
      simp only [Op.bytesLess, Bool.or_eq_true, Bool.and_eq_true, decide_eq_true_eq, beq_iff_eq]
      by_cases h : x < y
      · exact .inl (.inl h)
      · by_cases h' : y < x
        · exact .inr (.inr (.inl h'))
        · obtain rfl : x = y := UInt8.le_antisymm (UInt8.not_lt.1 h') (UInt8.not_lt.1 h)
          rcases ih b with h | rfl | h
          · exact .inl (.inr ⟨rfl, h⟩)
          · exact .inr (.inl rfl)
          · exact .inr (.inr (.inr ⟨rfl, h⟩))
def lt (a b : ByteArray) : Bool := Op.bytesLess a.toList b.toList
theorem lt_irrefl (a : ByteArray) : lt a a = false := bl_irrefl _
theorem lt_trans {a b c : ByteArray} (h : lt a b = true) (h' : lt b c = true) : lt a c = true := bl_trans _ _ _ h h'
theorem lt_tri (a b : ByteArray) : lt a b = true ∨ a = b ∨ lt b a = true := by
  rcases bl_tri a.toList b.toList with h | h | h
  · exact .inl h
  · exact .inr (.inl (toList_inj h))
  · exact .inr (.inr h)
theorem lt_ne {a b : ByteArray} (h : lt a b = true) : a ≠ b := fun e => by rw [e, lt_irrefl] at h; cases h
end Go.Proofs.Ytnkgmcgbbldkgaa.Q
namespace Go.Proofs.Ytnkgmcgbbldkgaa.Q
open Go.RowKit Go.Proofs.YtnkgmcgbbldkgaaW.PrintWords Go.Proofs.YtnkgmcgbbldkgaaW.PrintLast Go.Proofs.Ytnkgmcgbbldkgaa.P
def inB (n low high : Int) : Bool := decide (low ≤ n) && decide (n ≤ high)
def placeB (n : Int) : Bool := inB n (-1000000000) 1000000000
theorem l1In_eq (n low high : Int) : spec_l1In.f n low high = some (inB n low high) := by
  unfold spec_l1In.f inB
  by_cases h : low ≤ n
  · rw [if_pos (show n ≥ low from h)]; simp [h]
  · rw [if_neg (show ¬ n ≥ low from h)]; simp [h]
theorem within_eq (n low high : Int) : impl_within.f n low high = some (inB n low high) := by
  unfold impl_within.f inB
  by_cases h : low ≤ n
  · rw [if_pos (show n ≥ low from h)]; simp [h]
  · rw [if_neg (show ¬ n ≥ low from h)]; simp [h]
theorem position_eq (n : Int) : impl_position.f n = some (placeB n) := by
  unfold impl_position.f
  rw [within_eq]
  rfl
theorem l1In_ev (n low high : Int) : Ev (fun _ => spec_l1In.f n low high) (inB n low high) := val (l1In_eq n low high)
theorem within_ev (n low high : Int) : Ev (fun _ => impl_within.f n low high) (inB n low high) := val (within_eq n low high)
theorem position_ev (n : Int) : Ev (fun _ => impl_position.f n) (placeB n) := val (position_eq n)
def ahd (a b : Score) : Bool := decide (a.f1 < b.f1) || (decide (a.f1 = b.f1) && lt a.f0 b.f0)
theorem l3Ahead_eq (a b : Score) : spec_l3Ahead.f a.f0 a.f1 b.f0 b.f1 = some (ahd a b) := by
  unfold spec_l3Ahead.f ahd
  by_cases h : a.f1 < b.f1
  · rw [if_pos h]; simp [h]
  · rw [if_neg h]
    by_cases h' : a.f1 = b.f1
    · rw [if_pos h']; simp [h', lt]
    · rw [if_neg h']; simp [h, h']
theorem Compare_int_eq (a b : Int) : cmp_Compare_int.f a b = some (if a < b then -1 else if a > b then 1 else 0) := by
  unfold cmp_Compare_int.f cmp_isNaN_int.f
  simp
  split
  · rfl
  · split <;> rfl
theorem Compare_string_eq (a b : ByteArray) : cmp_Compare_string.f a b = some (if lt a b = true then -1 else if lt b a = true then 1 else 0) := by
  unfold cmp_Compare_string.f cmp_isNaN_string.f lt
  simp
  split
  · rfl
  · split <;> rfl
theorem Or_ev (a b : Int) : Ev (fun k => cmp_Or_int.f k [a, b]) (if a = 0 then b else a) := by
  unfold cmp_Or_int.f
  refine Ev.step (g := fun k => cmp_Or_int.l0 k _ _ _ _) (fun k => by rw [cmp_Or_int.l0]) (pos (by simp) (pos (by omega) (pos (by simp) ?_)))
  rw [show rd [a, b] 0 = a by rfl]
  refine both (fun h => ?_) (fun h => ret' (if_neg h).symm)
  rw [if_pos h, show wrap64 (0 + 1) = 1 by unfold wrap64; decide]
  refine Ev.step (g := fun k => cmp_Or_int.l0 k _ _ _ _) (fun k => by rw [cmp_Or_int.l0]) (pos (by simp) (pos (by omega) (pos (by simp) ?_)))
  rw [show rd [a, b] 1 = b by rfl, show wrap64 (1 + 1) = 2 by unfold wrap64; decide]
  refine both (fun h' => ?_) (fun h' => ret _)
  exact Ev.step (g := fun k => cmp_Or_int.l0 k _ _ _ _) (fun k => by rw [cmp_Or_int.l0]) (neg (by simp) (ret' h'.symm))
def ordM (a b : Score) : Int := if a.f1 < b.f1 then -1 else if a.f1 > b.f1 then 1 else if lt a.f0 b.f0 = true then -1 else if lt b.f0 a.f0 = true then 1 else 0
theorem scoreOrder_ev (a b : Score) : Ev (fun k => impl_scoreOrder.f k a.f0 a.f1 b.f0 b.f1) (ordM a b) := by
  unfold impl_scoreOrder.f
  refine Ev.bind (val (Compare_int_eq _ _)) (Ev.bind (val (Compare_string_eq _ _)) (Ev.bind (Or_ev _ _) (ret' ?_)))
  unfold ordM
  by_cases h : a.f1 < b.f1
  · simp [h]
  · by_cases h' : a.f1 > b.f1
    · simp [h, h']
    · simp [h, h']
theorem ordM_ahd (a b : Score) : ordM a b ≥ 0 ↔ ahd a b = false := by
  unfold ordM ahd
  by_cases h : a.f1 < b.f1
  · simp [h]
  · by_cases h' : a.f1 > b.f1
    · have : ¬ a.f1 = b.f1 := by omega
      simp [h, h', this]
    · have : a.f1 = b.f1 := by omega
      cases hl : lt a.f0 b.f0 with
      | true => simp [this]
      | false => simp [this]; split <;> decide
def fresh (l : List Score) (i : Nat) : Bool := (List.range i).all (fun k => !decide ((rd_T99 l (k : Int)).f0 = (rd_T99 l (i : Int)).f0))
def sOk (l : List Score) (i : Nat) : Bool :=
  decide ((rd_T99 l (i : Int)).f0.size ≤ 40) && (placeB (rd_T99 l (i : Int)).f1 && ((decide (i = 0) || ahd (rd_T99 l ((i - 1 : Nat) : Int)) (rd_T99 l (i : Int))) && fresh l i))
theorem sOk_eq {l : List Score} {i : Nat} (h40 : (rd_T99 l (i : Int)).f0.size ≤ 40) (hp : placeB (rd_T99 l (i : Int)).f1 = true) (ha : i = 0 ∨ ahd (rd_T99 l ((i - 1 : Nat) : Int)) (rd_T99 l (i : Int)) = true) : sOk l i = fresh l i := by
  unfold sOk
  rw [decide_eq_true h40, hp, Bool.true_and, Bool.true_and]
  rcases ha with ha | ha
  · rw [decide_eq_true ha, Bool.true_or, Bool.true_and]
  · rw [ha, Bool.or_true, Bool.true_and]
theorem sOk_no {l : List Score} {i : Nat} (h : ¬ (rd_T99 l (i : Int)).f0.size ≤ 40 ∨ placeB (rd_T99 l (i : Int)).f1 = false ∨ (¬ i = 0 ∧ ahd (rd_T99 l ((i - 1 : Nat) : Int)) (rd_T99 l (i : Int)) = false) ∨ fresh l i = false) : sOk l i = false := by
  unfold sOk
  rcases h with h | h | ⟨h, h'⟩ | h
  · rw [decide_eq_false h, Bool.false_and]
  · rw [h, Bool.false_and, Bool.and_false]
  · rw [decide_eq_false h, h', Bool.false_or, Bool.false_and, Bool.and_false, Bool.and_false]
  · rw [h, Bool.and_false, Bool.and_false, Bool.and_false]
def scoresB (l : List Score) : Bool := (List.range' 0 l.length).all (sOk l) && decide ((l.length : Int) ≤ 16)
theorem spec_ScoresOk_l1 (l : List Score) (hl : l.length ≤ maxLen) (i : Nat) (hi : i < l.length) (r : Bool) (hr : Ev (fun k => spec_ScoresOk.l0 k l (wrap64 ((i : Int) + 1))) r) (d : Nat) : ∀ (j : Nat), j + d = i →
    Ev (fun k => spec_ScoresOk.l1 k l (i : Int) (j : Int)) ((List.range' j d).all (fun k => !decide ((rd_T99 l (k : Int)).f0 = (rd_T99 l (i : Int)).f0)) && r) := by
  unfold maxLen at hl
  induction d with
  | zero =>
    intro j hj
    refine Ev.step (g := fun k => spec_ScoresOk.l1 k _ _ _) (fun k => by rw [spec_ScoresOk.l1]) (neg (by omega) ?_)
    simpa using hr
  | succ d ih =>
    intro j hj
    refine Ev.step (g := fun k => spec_ScoresOk.l1 k _ _ _) (fun k => by rw [spec_ScoresOk.l1]) (pos (by omega) (pos (by omega) (pos (by omega) (pos (by omega) (pos (by omega) ?_)))))
    rw [wrap_id (x := (j : Int) + 1) (by omega) (by omega), List.range'_succ, List.all_cons]
    refine both (fun h => ret' ?_) (fun h => ?_)
    · simp [toList_inj h]
    · have : ¬ (rd_T99 l (j : Int)).f0 = (rd_T99 l (i : Int)).f0 := fun e => h (by rw [e])
      refine of_eq (ih (j + 1) (by omega)) ?_
      simp [this]
theorem spec_ScoresOk_l0 (l : List Score) (hl : l.length ≤ maxLen) (d : Nat) : ∀ (i : Nat), i + d = l.length → Ev (fun k => spec_ScoresOk.l0 k l (i : Int)) ((List.range' i d).all (sOk l) && decide ((l.length : Int) ≤ 16)) := by
  have hl' := hl
  unfold maxLen at hl'
  induction d with
  | zero =>
    intro i hi
    refine Ev.step (g := fun k => spec_ScoresOk.l0 k _ _) (fun k => by rw [spec_ScoresOk.l0]) (neg (by omega) (ret' ?_))
    simp
  | succ d ih =>
    intro i hi
    have hw : wrap64 ((i : Int) + 1) = ((i + 1 : Nat) : Int) := by rw [wrap_id (by omega) (by omega)]; omega
    have ih' := ih (i + 1) (by omega)
    have hin := spec_ScoresOk_l1 l hl i (by omega) _ (by rw [hw]; exact ih') i 0 (by omega)
    rw [← List.range_eq_range'] at hin
    refine Ev.step (g := fun k => spec_ScoresOk.l0 k _ _) (fun k => by rw [spec_ScoresOk.l0]) (pos (by omega) (pos (by omega) ?_))
    rw [List.range'_succ, List.all_cons]
    refine both (fun h => ?_) (fun h => ?_)
    · refine Ev.step (g := fun k => spec_ScoresOk.j1 k _ _ _) (fun k => by rw [spec_ScoresOk.j1]) ?_
      exact pos rfl (ret' (by rw [sOk_no (.inl (by omega))]; rfl))
    · have h40 : (rd_T99 l (i : Int)).f0.size ≤ 40 := by omega
      refine Ev.bind (l1In_ev _ _ _) ?_
      rw [show inB (rd_T99 l (i : Int)).f1 (-1000000000) 1000000000 = placeB (rd_T99 l (i : Int)).f1 from rfl]
      cases hp : placeB (rd_T99 l (i : Int)).f1 with
      | false =>
        refine neg (by decide) ?_
        refine Ev.step (g := fun k => spec_ScoresOk.j1 k _ _ _) (fun k => by rw [spec_ScoresOk.j1]) ?_
        exact pos rfl (ret' (by rw [sOk_no (.inr (.inl hp))]; rfl))
      | true =>
        refine pos rfl ?_
        by_cases h0 : i = 0
        · refine neg (by omega) ?_
          refine Ev.step (g := fun k => spec_ScoresOk.j1 k _ _ _) (fun k => by rw [spec_ScoresOk.j1]) ?_
          exact neg (by decide) (of_eq hin (by rw [sOk_eq h40 hp (.inl h0), Bool.and_assoc]; rfl))
        · refine pos (by omega) ?_
          rw [show wrap64 ((i : Int) - 1) = ((i - 1 : Nat) : Int) by rw [wrap_id (by omega) (by omega)]; omega]
          refine pos (by omega) (pos (by omega) (Ev.bind (val (l3Ahead_eq _ _)) ?_))
          cases ha : ahd (rd_T99 l ((i - 1 : Nat) : Int)) (rd_T99 l (i : Int)) with
          | false =>
            refine Ev.step (g := fun k => spec_ScoresOk.j1 k _ _ _) (fun k => by rw [spec_ScoresOk.j1]) ?_
            exact pos rfl (ret' (by rw [sOk_no (.inr (.inr (.inl ⟨h0, ha⟩)))]; rfl))
          | true =>
            refine Ev.step (g := fun k => spec_ScoresOk.j1 k _ _ _) (fun k => by rw [spec_ScoresOk.j1]) ?_
            exact neg (by decide) (of_eq hin (by rw [sOk_eq h40 hp (.inr ha), Bool.and_assoc]; rfl))
theorem spec_ScoresOk_ev (l : List Score) (hl : l.length ≤ maxLen) : Ev (fun k => spec_ScoresOk.f k l) (scoresB l) := spec_ScoresOk_l0 l hl l.length 0 (by omega)
theorem from_ge (t : ByteArray) (r : List Score) : ∀ o : Nat, impl_scoreAt.from t r o = -1 ∨ (o : Int) ≤ impl_scoreAt.from t r o ∧ impl_scoreAt.from t r o < o + r.length := by
  induction r with
  | nil => intro o; exact .inl rfl
  | cons x r ih =>
    intro o
    rw [impl_scoreAt.from]
    by_cases h : x.f0.toList = t.toList
    · rw [if_pos h]; right; simp; omega
    · rw [if_neg h]
      rcases ih (o + 1) with h | h
      · exact .inl h
      · right; simp; omega
theorem from_iff (t : ByteArray) (r : List Score) : ∀ (o j : Nat), impl_scoreAt.from t r o = ((o + j : Nat) : Int) ↔ ∃ h : j < r.length, r[j].f0 = t ∧ ∀ k (hk : k < j), (r[k]'(by omega)).f0 ≠ t := by
  induction r with
  | nil =>
    intro o j
    refine ⟨fun h => ?_, fun ⟨h, _⟩ => ?_⟩
    · have : (-1 : Int) = ((o + j : Nat) : Int) := h
      omega
    · simp at h
  | cons x r ih =>
    intro o j
    rw [impl_scoreAt.from]
    by_cases h : x.f0.toList = t.toList
    · rw [if_pos h]
      refine ⟨fun e => ?_, fun ⟨h1, h2, h3⟩ => ?_⟩
      · obtain rfl : j = 0 := by omega
        exact ⟨by simp, toList_inj h, fun k hk => by omega⟩
      · cases j with
        | zero => rfl
        | succ j => exact absurd (toList_inj h) (h3 0 (by omega))
    · rw [if_neg h]
      cases j with
      | zero =>
        refine ⟨fun e => ?_, fun ⟨h1, h2, h3⟩ => ?_⟩
        · rcases from_ge t r (o + 1) with q | q <;> omega
        · exact absurd (by rw [← h2]; rfl) h
      | succ j =>
        rw [show o + (j + 1) = (o + 1) + j by omega, ih (o + 1) j]
        refine ⟨fun ⟨h1, h2, h3⟩ => ⟨by simp; omega, h2, fun k hk => ?_⟩, fun ⟨h1, h2, h3⟩ => ⟨by simp at h1; omega, h2, fun k hk => h3 (k + 1) (by omega)⟩⟩
        cases k with
        | zero => exact fun e => h (by rw [← e]; rfl)
        | succ k => exact h3 k (by omega)
theorem from_fresh (l : List Score) (i : Nat) (hi : i < l.length) : decide (impl_scoreAt.from (rd_T99 l (i : Int)).f0 l 0 = (i : Int)) = fresh l i := by
  have := from_iff (rd_T99 l (i : Int)).f0 l 0 i
  rw [Nat.zero_add] at this
  rw [Bool.eq_iff_iff, decide_eq_true_iff, this]
  unfold fresh
  simp only [List.all_eq_true, List.mem_range, Bool.not_eq_true', decide_eq_false_iff_not]
  rw [rdScore_lt _ _ hi]
  refine ⟨fun ⟨_, _, h⟩ k hk => ?_, fun h => ⟨hi, rfl, fun k hk => ?_⟩⟩
  · rw [rdScore_lt _ _ (by omega)]; exact h k hk
  · have := h k hk
    rw [rdScore_lt _ _ (by omega)] at this
    exact this
theorem impl_ScoresOk_l0 (l : List Score) (hl : l.length ≤ maxLen) (d : Nat) : ∀ (i : Nat), i + d = l.length → Ev (fun k => impl_ScoresOk.l0 k l l (l.length : Int) (i : Int)) ((List.range' i d).all (sOk l) && decide ((l.length : Int) ≤ 16)) := by
  have hl' := hl
  unfold maxLen at hl'
  induction d with
  | zero =>
    intro i hi
    refine Ev.step (g := fun k => impl_ScoresOk.l0 k _ _ _ _) (fun k => by rw [impl_ScoresOk.l0]) (neg (by omega) (ret' ?_))
    simp
  | succ d ih =>
    intro i hi
    have ih' := ih (i + 1) (by omega)
    have hf := from_fresh l i (by omega)
    refine Ev.step (g := fun k => impl_ScoresOk.l0 k _ _ _ _) (fun k => by rw [impl_ScoresOk.l0]) (pos (by omega) (pos (by omega) (pos (by omega) ?_)))
    rw [List.range'_succ, List.all_cons, wrap_id (x := (i : Int) + 1) (by omega) (by omega)]
    refine both (fun h => ret' (by rw [sOk_no (.inl (by omega))]; rfl)) (fun h => ?_)
    · have h40 : (rd_T99 l (i : Int)).f0.size ≤ 40 := by omega
      refine Ev.bind (position_ev _) ?_
      cases hp : placeB (rd_T99 l (i : Int)).f1 with
      | false => exact neg (by decide) (ret' (by rw [sOk_no (.inr (.inl hp))]; rfl))
      | true =>
        refine pos rfl ?_
        by_cases h0 : i = 0
        · refine neg (by omega) (Ev.bind (val rfl) ?_)
          refine both (fun q => ?_) (fun q => ret' ?_)
          · rw [decide_eq_true q] at hf
            exact of_eq ih' (by rw [sOk_eq h40 hp (.inl h0), ← hf, Bool.true_and])
          · rw [decide_eq_false q] at hf
            rw [sOk_no (.inr (.inr (.inr hf.symm)))]; rfl
        · refine pos (by omega) ?_
          rw [show wrap64 ((i : Int) - 1) = ((i - 1 : Nat) : Int) by rw [wrap_id (by omega) (by omega)]; omega]
          refine pos (by omega) (pos (by omega) (Ev.bind (scoreOrder_ev _ _) ?_))
          refine both (fun q => ret' ?_) (fun q => ?_)
          · rw [sOk_no (.inr (.inr (.inl ⟨h0, (ordM_ahd _ _).1 q⟩)))]; rfl
          · have ha : ahd (rd_T99 l ((i - 1 : Nat) : Int)) (rd_T99 l (i : Int)) = true := by
              cases e : ahd (rd_T99 l ((i - 1 : Nat) : Int)) (rd_T99 l (i : Int)) with
              | true => rfl
              | false => exact absurd ((ordM_ahd _ _).2 e) q
            refine Ev.bind (val rfl) ?_
            refine both (fun q => ?_) (fun q => ret' ?_)
            · rw [decide_eq_true q] at hf
              exact of_eq ih' (by rw [sOk_eq h40 hp (.inr ha), ← hf, Bool.true_and])
            · rw [decide_eq_false q] at hf
              rw [sOk_no (.inr (.inr (.inr hf.symm)))]; rfl
theorem impl_ScoresOk_ev (l : List Score) (hl : l.length ≤ maxLen) : Ev (fun k => impl_ScoresOk.f k l) (scoresB l) := impl_ScoresOk_l0 l hl l.length 0 (by omega)
def ahead : Option ByteArray → ByteArray → Bool
  | none, _ => true
  | some y, x => lt y x
def fieldsUp : Option ByteArray → List Pair → Bool
  | _, [] => true
  | p, x :: r => decide (x.f0.size ≤ 40) && (decide (x.f1.size ≤ 40) && (ahead p x.f0 && fieldsUp (some x.f0) r))
def fieldsB (l : List Pair) : Bool := fieldsUp none l && decide ((l.length : Int) ≤ 16)
def before (l : List Pair) (i : Nat) : Option ByteArray := if h : 0 < i ∧ i - 1 < l.length then some (l[i - 1]'h.2).f0 else none
theorem spec_FieldsOk_l0 (l : List Pair) (hl : l.length ≤ maxLen) (d : Nat) : ∀ (i : Nat), i + d = l.length → Ev (fun k => spec_FieldsOk.l0 k l (i : Int)) (fieldsUp (before l i) (l.drop i) && decide ((l.length : Int) ≤ 16)) := by
  unfold maxLen at hl
  induction d with
  | zero =>
    intro i hi
    refine Ev.step (g := fun k => spec_FieldsOk.l0 k _ _) (fun k => by rw [spec_FieldsOk.l0]) (neg (by omega) (ret' ?_))
    rw [List.drop_of_length_le (by omega), fieldsUp, Bool.true_and]
  | succ d ih =>
    intro i hi
    have hlt : i < l.length := by omega
    refine Ev.step (g := fun k => spec_FieldsOk.l0 k _ _) (fun k => by rw [spec_FieldsOk.l0]) (pos (by omega) (pos (by omega) ?_))
    try refine pos (by omega) ?_
    rw [rdPair_lt _ _ hlt, List.drop_eq_getElem_cons hlt, fieldsUp, wrap_id (x := (i : Int) + 1) (by omega) (by omega)]
    have hb : before l (i + 1) = some l[i].f0 := by unfold before; rw [dif_pos ⟨by omega, by omega⟩]; rfl
    have ih := ih (i + 1) (by omega)
    rw [hb] at ih
    refine both (fun h => ret' ?_) (fun h => both (fun h' => ret' ?_) (fun h' => ?_))
    · rw [decide_eq_false (by omega), Bool.false_and, Bool.false_and]
    · rw [decide_eq_false (p := l[i].f1.size ≤ 40) (by omega)]; simp
    · rw [decide_eq_true (by omega), decide_eq_true (p := l[i].f1.size ≤ 40) (by omega), Bool.true_and, Bool.true_and]
      by_cases h0 : i = 0
      · subst h0
        refine neg (by omega) (of_eq ih ?_)
        simp [before, ahead]
      · have hlt1 : i - 1 < l.length := by omega
        have hp : before l i = some l[i - 1].f0 := by unfold before; rw [dif_pos ⟨by omega, hlt1⟩]
        have e : wrap64 ((i : Int) - 1) = ((i - 1 : Nat) : Int) := by rw [wrap_id (by omega) (by omega)]; omega
        rw [hp, e, rdPair_lt _ _ hlt1]
        refine pos (by omega) (pos (by omega) (pos (by omega) (both (fun h => ?_) (fun h => ret' ?_))))
        · refine of_eq ih ?_
          show _ = (lt l[i - 1].f0 l[i].f0 && fieldsUp (some l[i].f0) (l.drop (i + 1)) && _)
          rw [show lt l[i - 1].f0 l[i].f0 = true from h, Bool.true_and]
        · show false = (lt l[i - 1].f0 l[i].f0 && fieldsUp (some l[i].f0) (l.drop (i + 1)) && _)
          rw [show lt l[i - 1].f0 l[i].f0 = false from Bool.eq_false_iff.2 h, Bool.false_and, Bool.false_and]
theorem spec_FieldsOk_ev (l : List Pair) (hl : l.length ≤ maxLen) : Ev (fun k => spec_FieldsOk.f k l) (fieldsB l) := by
  have := spec_FieldsOk_l0 l hl l.length 0 (by omega)
  simpa [before, spec_FieldsOk.f, fieldsB] using this
theorem impl_FieldsOk_l0 (l : List Pair) (hl : l.length ≤ maxLen) (d : Nat) : ∀ (i : Nat), i + d = l.length → Ev (fun k => impl_FieldsOk.l0 k l l (l.length : Int) (i : Int)) (fieldsUp (before l i) (l.drop i) && decide ((l.length : Int) ≤ 16)) := by
  unfold maxLen at hl
  induction d with
  | zero =>
    intro i hi
    refine Ev.step (g := fun k => impl_FieldsOk.l0 k _ _ _ _) (fun k => by rw [impl_FieldsOk.l0]) (neg (by omega) (ret' ?_))
    rw [List.drop_of_length_le (by omega), fieldsUp, Bool.true_and]
  | succ d ih =>
    intro i hi
    have hlt : i < l.length := by omega
    refine Ev.step (g := fun k => impl_FieldsOk.l0 k _ _ _ _) (fun k => by rw [impl_FieldsOk.l0]) (pos (by omega) (pos (by omega) ?_))
    try refine pos (by omega) ?_
    rw [rdPair_lt _ _ hlt, List.drop_eq_getElem_cons hlt, fieldsUp, wrap_id (x := (i : Int) + 1) (by omega) (by omega)]
    have hb : before l (i + 1) = some l[i].f0 := by unfold before; rw [dif_pos ⟨by omega, by omega⟩]; rfl
    have ih := ih (i + 1) (by omega)
    rw [hb] at ih
    refine both (fun h => ret' ?_) (fun h => both (fun h' => ret' ?_) (fun h' => ?_))
    · rw [decide_eq_false (by omega), Bool.false_and, Bool.false_and]
    · rw [decide_eq_false (p := l[i].f1.size ≤ 40) (by omega)]; simp
    · rw [decide_eq_true (by omega), decide_eq_true (p := l[i].f1.size ≤ 40) (by omega), Bool.true_and, Bool.true_and]
      by_cases h0 : i = 0
      · subst h0
        refine neg (by omega) (of_eq ih ?_)
        simp [before, ahead]
      · have hlt1 : i - 1 < l.length := by omega
        have hp : before l i = some l[i - 1].f0 := by unfold before; rw [dif_pos ⟨by omega, hlt1⟩]
        have e : wrap64 ((i : Int) - 1) = ((i - 1 : Nat) : Int) := by rw [wrap_id (by omega) (by omega)]; omega
        rw [hp, e, rdPair_lt _ _ hlt1]
        refine pos (by omega) (pos (by omega) (pos (by omega) (both (fun h => ?_) (fun h => ret' ?_))))
        · refine of_eq ih ?_
          show _ = (lt l[i - 1].f0 l[i].f0 && fieldsUp (some l[i].f0) (l.drop (i + 1)) && _)
          rw [show lt l[i - 1].f0 l[i].f0 = true from h, Bool.true_and]
        · show false = (lt l[i - 1].f0 l[i].f0 && fieldsUp (some l[i].f0) (l.drop (i + 1)) && _)
          rw [show lt l[i - 1].f0 l[i].f0 = false from Bool.eq_false_iff.2 h, Bool.false_and, Bool.false_and]
theorem impl_FieldsOk_ev (l : List Pair) (hl : l.length ≤ maxLen) : Ev (fun k => impl_FieldsOk.f k l) (fieldsB l) := by
  have := impl_FieldsOk_l0 l hl l.length 0 (by omega)
  simpa [before, impl_FieldsOk.f, fieldsB] using this
theorem szStringS_l0 (l : List ByteArray) (hl : l.length ≤ maxLen) (hs : ∀ s ∈ l, s.size ≤ maxLen) (d : Nat) : ∀ (i : Nat) (c : Int), i + d = l.length → 0 ≤ c → c ≤ 1048576 →
    ∃ v, Ev (fun k => laws_szStringS.l0 k l c (i : Int)) v ∧ v ≤ c ∧ -1 ≤ v ∧ (0 ≤ v → ∀ j (h : j < l.length), i ≤ j → l[j].size ≤ 1048576) := by
  unfold maxLen at hl hs
  induction d with
  | zero =>
    intro i c hi h0 h1
    exact ⟨c, Ev.step (fun k => by rw [laws_szStringS.l0]) (neg (by omega) (ret c)), by omega, by omega, fun _ j hj hij => by omega⟩
  | succ d ih =>
    intro i c hi h0 h1
    have hlt : i < l.length := by omega
    have hsz := hs _ (List.getElem_mem hlt)
    by_cases hneg : c - (l[i].size : Int) < 0
    · refine ⟨-1, Ev.step (fun k => by rw [laws_szStringS.l0]) (pos (by omega) (pos (by omega) (pos ?_ (ret (-1))))), by omega, by omega, by omega⟩
      rw [rdOf_lt _ _ _ hlt, wrap_id (by omega) (by omega)]
      exact hneg
    · obtain ⟨v, hv, h2, h3, h4⟩ := ih (i + 1) (c - (l[i].size : Int)) (by omega) (by omega) (by omega)
      refine ⟨v, Ev.step (fun k => by rw [laws_szStringS.l0]) (pos (by omega) (pos (by omega) (neg ?_ ?_))), by omega, h3, fun h5 j hj hij => ?_⟩
      · rw [rdOf_lt _ _ _ hlt, wrap_id (by omega) (by omega)]
        exact hneg
      · rw [rdOf_lt _ _ _ hlt, wrap_id (x := c - _) (by omega) (by omega), wrap_id (x := (i : Int) + 1) (by omega) (by omega)]
        exact hv
      · rcases Nat.eq_or_lt_of_le hij with rfl | hij
        · omega
        · exact h4 h5 j hj hij
theorem szStringS_ev (l : List ByteArray) (hl : l.length ≤ maxLen) (hs : ∀ s ∈ l, s.size ≤ maxLen) (c : Int) (h0 : 0 ≤ c) (h1 : c ≤ 1048576) :
    ∃ v, Ev (fun k => laws_szStringS.f k l c) v ∧ v ≤ c ∧ -1 ≤ v ∧ (0 ≤ v → l.length ≤ 1048576 ∧ ∀ s ∈ l, s.size ≤ 1048576) := by
  have hl' := hl
  unfold maxLen at hl'
  by_cases h : c - (l.length : Int) < 0
  · refine ⟨-1, ?_, by omega, by omega, by omega⟩
    unfold laws_szStringS.f
    refine pos ?_ (ret _)
    rw [wrap_id (by omega) (by omega)]
    exact h
  · obtain ⟨v, hv, h2, h3, h4⟩ := szStringS_l0 l hl hs l.length 0 (c - (l.length : Int)) (by omega) (by omega) (by omega)
    refine ⟨v, ?_, by omega, h3, fun h5 => ⟨by omega, fun s hs => ?_⟩⟩
    · unfold laws_szStringS.f
      rw [wrap_id (by omega) (by omega)]
      exact neg h hv
    · obtain ⟨j, hj, rfl⟩ := List.getElem_of_mem hs
      exact h4 h5 j hj (by omega)
def textsB (l : List ByteArray) (m : Int) : Bool := l.all (fun s => decide (s.size ≤ 40)) && decide ((l.length : Int) ≤ m)
theorem l2Texts_l0 (l : List ByteArray) (hl : l.length ≤ maxLen) (d : Nat) : ∀ (i : Nat), i + d = l.length → Ev (fun k => spec_l2Texts.l0 k l (i : Int)) ((l.drop i).all (fun s => decide (s.size ≤ 40)) && decide ((l.length : Int) ≤ 16)) := by
  unfold maxLen at hl
  induction d with
  | zero =>
    intro i hi
    refine Ev.step (fun k => by rw [spec_l2Texts.l0]) (neg (by omega) (ret' ?_))
    rw [List.drop_of_length_le (by omega)]
    simp
  | succ d ih =>
    intro i hi
    have hlt : i < l.length := by omega
    refine Ev.step (fun k => by rw [spec_l2Texts.l0]) (pos (by omega) (pos (by omega) ?_))
    rw [rdOf_lt _ _ _ hlt, List.drop_eq_getElem_cons hlt, List.all_cons, wrap_id (by omega) (by omega)]
    refine both (fun h => ret' ?_) (fun h => ?_)
    · have : ¬ l[i].size ≤ 40 := by omega
      simp [this]
    · have : l[i].size ≤ 40 := by omega
      simp only [this, decide_true, Bool.true_and]
      exact ih (i + 1) (by omega)
theorem l2Texts_ev (l : List ByteArray) (hl : l.length ≤ maxLen) : Ev (fun k => spec_l2Texts.f k l) (textsB l 16) := l2Texts_l0 l hl l.length 0 (by omega)
theorem textsOk_l0 (l : List ByteArray) (hl : l.length ≤ maxLen) (m : Int) (d : Nat) : ∀ (i : Nat), i + d = l.length → Ev (fun k => impl_textsOk.l0 k l m l (l.length : Int) (i : Int)) ((l.drop i).all (fun s => decide (s.size ≤ 40)) && decide ((l.length : Int) ≤ m)) := by
  unfold maxLen at hl
  induction d with
  | zero =>
    intro i hi
    refine Ev.step (fun k => by rw [impl_textsOk.l0]) (neg (by omega) (ret' ?_))
    rw [List.drop_of_length_le (by omega)]
    simp
  | succ d ih =>
    intro i hi
    have hlt : i < l.length := by omega
    refine Ev.step (fun k => by rw [impl_textsOk.l0]) (pos (by omega) (pos (by omega) (pos (by omega) ?_)))
    rw [rdOf_lt _ _ _ hlt, List.drop_eq_getElem_cons hlt, List.all_cons, wrap_id (by omega) (by omega)]
    refine both (fun h => ret' ?_) (fun h => ?_)
    · have : ¬ l[i].size ≤ 40 := by omega
      simp [this]
    · have : l[i].size ≤ 40 := by omega
      simp only [this, decide_true, Bool.true_and]
      exact ih (i + 1) (by omega)
theorem textsOk_ev (l : List ByteArray) (hl : l.length ≤ maxLen) (m : Int) : Ev (fun k => impl_textsOk.f k l m) (textsB l m) := textsOk_l0 l hl m l.length 0 (by omega)
theorem listOk_ev (l : List ByteArray) (hl : l.length ≤ maxLen) : Ev (fun k => impl_listOk.f k l) (textsB l 16) := by
  unfold impl_listOk.f
  exact Ev.bind (textsOk_ev l hl 16) (ret _)
theorem toStringS_l0 (l : List ByteArray) (hl : l.length ≤ maxLen) (d : Nat) : ∀ (i : Nat) (x : List ByteArray), i + d = l.length → x.length = l.length → Ev (fun k => laws_toStringS.l0 k l x (i : Int)) (x.take i ++ l.drop i) := by
  unfold maxLen at hl
  induction d with
  | zero =>
    intro i x hi hx
    refine Ev.step (fun k => by rw [laws_toStringS.l0]) (neg (by omega) (ret' ?_))
    rw [List.drop_of_length_le (by omega), List.take_of_length_le (by omega), List.append_nil]
  | succ d ih =>
    intro i x hi hx
    have hlt : i < l.length := by omega
    refine Ev.step (fun k => by rw [laws_toStringS.l0]) (pos (by omega) (pos (by omega) (pos (by omega) ?_)))
    rw [rdOf_lt _ _ _ hlt, wrap_id (by omega) (by omega)]
    refine of_eq (ih (i + 1) _ (by omega) (by simp [hx])) ?_
    rw [List.drop_eq_getElem_cons hlt, Int.toNat_natCast, List.take_set, List.take_succ_eq_append_getElem (by omega), List.set_append_right _ _ (by simp; omega)]
    simp [show min i x.length = i by omega]
theorem toStringS_ev (l : List ByteArray) (hl : l.length ≤ 17592186044416) : Ev (fun k => laws_toStringS.f k l) l := by
  unfold laws_toStringS.f
  refine pos (by omega) (pos (by omega) ?_)
  exact of_eq (toStringS_l0 l (by unfold maxLen; omega) l.length 0 _ (by omega) (by simp)) (by simp)
theorem eqStringS_l0 (l l' : List ByteArray) (hl : l.length ≤ maxLen) (he : l.length = l'.length) (d : Nat) : ∀ (i : Nat), i + d = l.length → Ev (fun k => laws_eqStringS.l0 k l l' (i : Int)) (decide (l.drop i = l'.drop i)) := by
  unfold maxLen at hl
  induction d with
  | zero =>
    intro i hi
    refine Ev.step (fun k => by rw [laws_eqStringS.l0]) (neg (by omega) (ret' ?_))
    rw [List.drop_of_length_le (by omega), List.drop_of_length_le (by omega)]
    simp
  | succ d ih =>
    intro i hi
    have hlt : i < l.length := by omega
    have hlt' : i < l'.length := by omega
    refine Ev.step (fun k => by rw [laws_eqStringS.l0]) (pos (by omega) (pos (by omega) (pos (by omega) ?_)))
    rw [rdOf_lt _ _ _ hlt, rdOf_lt _ _ _ hlt', wrap_id (by omega) (by omega), List.drop_eq_getElem_cons hlt, List.drop_eq_getElem_cons hlt']
    refine both (fun h => ?_) (fun h => ret' ?_)
    · refine of_eq (ih (i + 1) (by omega)) ?_
      rw [toList_inj h]
      exact decide_eq_decide.2 (by simp only [List.cons.injEq, true_and])
    · exact (decide_eq_false (fun e => h (by rw [(List.cons.inj e).1]))).symm
theorem eqStringS_ev (l l' : List ByteArray) (hl : l.length ≤ maxLen) : Ev (fun k => laws_eqStringS.f k l l') (decide (l = l')) := by
  unfold laws_eqStringS.f
  refine both (fun h => ?_) (fun h => ret' ?_)
  · exact eqStringS_l0 l l' hl (by omega) l.length 0 (by omega)
  · have : l ≠ l' := fun e => h (by rw [e])
    simp [this]
theorem eqStringS_same (l : List ByteArray) (hl : l.length ≤ maxLen) : Ev (fun k => laws_eqStringS.f k l l) true := of_eq (eqStringS_ev l l hl) (by simp)
def ascB : List ByteArray → Bool
  | a :: b :: r => lt a b && ascB (b :: r)
  | _ => true
def setB (l : List ByteArray) : Bool := ascB l && textsB l 16
theorem spec_SetOk_l0 (l : List ByteArray) (hl : l.length ≤ maxLen) (d : Nat) : ∀ (j : Nat), j + 1 + d = l.length → Ev (fun k => spec_SetOk.l0 k l ((j : Int) + 1)) (ascB (l.drop j) && textsB l 16) := by
  have hl' := hl
  unfold maxLen at hl'
  induction d with
  | zero =>
    intro j hj
    refine Ev.step (fun k => by rw [spec_SetOk.l0]) (neg (by omega) ?_)
    rw [List.drop_eq_getElem_cons (by omega : j < l.length), List.drop_of_length_le (by omega)]
    exact Ev.bind (l2Texts_ev l hl) (ret' (by simp [ascB]))
  | succ d ih =>
    intro j hj
    have h1 : j < l.length := by omega
    have h2 : j + 1 < l.length := by omega
    have e : (j : Int) + 1 = ((j + 1 : Nat) : Int) := by omega
    refine Ev.step (fun k => by rw [spec_SetOk.l0]) (pos (by omega) ?_)
    rw [wrap_id (x := (j : Int) + 1 - 1) (by omega) (by omega), show (j : Int) + 1 - 1 = (j : Int) by omega]
    refine pos (by omega) (pos (by omega) (pos (by omega) ?_))
    rw [rdOf_lt _ _ _ h1, e, rdOf_lt _ _ _ h2, wrap_id (by omega) (by omega)]
    have hd : l.drop j = l[j] :: l[j + 1] :: l.drop (j + 2) := by rw [List.drop_eq_getElem_cons h1, List.drop_eq_getElem_cons h2]
    have hd1 : l.drop (j + 1) = l[j + 1] :: l.drop (j + 2) := List.drop_eq_getElem_cons h2
    rw [hd]
    refine both (fun h => ?_) (fun h => ret' ?_)
    · have := ih (j + 1) (by omega)
      rw [hd1] at this
      refine of_eq this ?_
      show _ = (lt l[j] l[j + 1] && ascB (l[j + 1] :: l.drop (j + 2)) && textsB l 16)
      rw [show lt l[j] l[j + 1] = true from h, Bool.true_and]
    · show false = (lt l[j] l[j + 1] && ascB (l[j + 1] :: l.drop (j + 2)) && textsB l 16)
      rw [show lt l[j] l[j + 1] = false from Bool.eq_false_iff.2 h, Bool.false_and, Bool.false_and]
theorem spec_SetOk_ev (l : List ByteArray) (hl : l.length ≤ maxLen) : Ev (fun k => spec_SetOk.f k l) (setB l) := by
  unfold spec_SetOk.f setB
  by_cases h : l.length = 0
  · obtain rfl : l = [] := List.length_eq_zero_iff.1 h
    refine Ev.step (fun k => by rw [spec_SetOk.l0]) (neg (by simp) ?_)
    exact Ev.bind (l2Texts_ev [] (by simp)) (ret' (by simp [ascB]))
  · exact spec_SetOk_l0 l hl (l.length - 1) 0 (by omega)
theorem impl_SetOk_l0 (l : List ByteArray) (hl : l.length ≤ maxLen) (d : Nat) : ∀ (j : Nat), j + 1 + d = l.length → Ev (fun k => impl_SetOk.l0 k l ((j : Int) + 1)) (ascB (l.drop j) && textsB l 16) := by
  have hl' := hl
  unfold maxLen at hl'
  induction d with
  | zero =>
    intro j hj
    refine Ev.step (fun k => by rw [impl_SetOk.l0]) (neg (by omega) ?_)
    rw [List.drop_eq_getElem_cons (by omega : j < l.length), List.drop_of_length_le (by omega)]
    exact Ev.bind (listOk_ev l hl) (ret' (by simp [ascB]))
  | succ d ih =>
    intro j hj
    have h1 : j < l.length := by omega
    have h2 : j + 1 < l.length := by omega
    have e : (j : Int) + 1 = ((j + 1 : Nat) : Int) := by omega
    refine Ev.step (fun k => by rw [impl_SetOk.l0]) (pos (by omega) ?_)
    rw [wrap_id (x := (j : Int) + 1 - 1) (by omega) (by omega), show (j : Int) + 1 - 1 = (j : Int) by omega]
    refine pos (by omega) (pos (by omega) (pos (by omega) ?_))
    rw [rdOf_lt _ _ _ h1, e, rdOf_lt _ _ _ h2, wrap_id (by omega) (by omega)]
    have hd : l.drop j = l[j] :: l[j + 1] :: l.drop (j + 2) := by rw [List.drop_eq_getElem_cons h1, List.drop_eq_getElem_cons h2]
    have hd1 : l.drop (j + 1) = l[j + 1] :: l.drop (j + 2) := List.drop_eq_getElem_cons h2
    rw [hd]
    refine both (fun h => ?_) (fun h => ret' ?_)
    · have := ih (j + 1) (by omega)
      rw [hd1] at this
      refine of_eq this ?_
      show _ = (lt l[j] l[j + 1] && ascB (l[j + 1] :: l.drop (j + 2)) && textsB l 16)
      rw [show lt l[j] l[j + 1] = true from h, Bool.true_and]
    · show false = (lt l[j] l[j + 1] && ascB (l[j + 1] :: l.drop (j + 2)) && textsB l 16)
      rw [show lt l[j] l[j + 1] = false from Bool.eq_false_iff.2 h, Bool.false_and, Bool.false_and]
theorem impl_SetOk_ev (l : List ByteArray) (hl : l.length ≤ maxLen) : Ev (fun k => impl_SetOk.f k l) (setB l) := by
  unfold impl_SetOk.f setB
  by_cases h : l.length = 0
  · obtain rfl : l = [] := List.length_eq_zero_iff.1 h
    refine Ev.step (fun k => by rw [impl_SetOk.l0]) (neg (by simp) ?_)
    exact Ev.bind (listOk_ev [] (by simp)) (ret' (by simp [ascB]))
  · exact impl_SetOk_l0 l hl (l.length - 1) 0 (by omega)
end Go.Proofs.Ytnkgmcgbbldkgaa.Q
namespace Go.Proofs.Ytnkgmcgbbldkgaa.Q
open Go.RowKit Go.Proofs.YtnkgmcgbbldkgaaW.PrintWords Go.Proofs.YtnkgmcgbbldkgaaW.PrintLast Go.Proofs.Ytnkgmcgbbldkgaa.P
set_option linter.unusedSimpArgs false
def kindB (kd : Int) (sz bt bl bs bf T S C F : Bool) : Bool :=
  if kd = 1 then sz && (bl && (bs && bf)) else if kd = 2 then bt && (!bl && (T && (bs && bf))) else if kd = 3 then bt && (!bl && (S && (bs && bf))) else if kd = 4 then bt && (bl && (!bs && (C && bf))) else if kd = 5 then bt && (bl && (bs && (!bf && F))) else false
def entryB (key : ByteArray) (exp kd : Int) (t : ByteArray) (l : List ByteArray) (s : List Score) (f : List Pair) : Bool :=
  inB (key.size : Int) 1 12 && (inB exp 0 2000000 && kindB kd (decide ((t.size : Int) ≤ 40)) (decide (t.toList = [])) (decide (l.length = 0)) (decide (s.length = 0)) (decide (f.length = 0)) (textsB l 16) (setB l) (scoresB s) (fieldsB f))
theorem len_pos (n : Nat) : ((n : Int) > 0) = (decide (n = 0) = false) := by
  rw [decide_eq_false_iff_not]
  exact propext (by omega)
theorem len_zero (n : Nat) : ((n : Int) = 0) = (decide (n = 0) = true) := by
  rw [decide_eq_true_iff]
  exact propext (by omega)
theorem len_beq (n : Nat) : ((n : Int) == 0) = decide (n = 0) := by
  rw [Bool.eq_iff_iff, beq_iff_eq, decide_eq_true_iff]
  omega
theorem len_dec (n : Nat) : decide ((n : Int) > 0) = !decide (n = 0) := by
  rw [Bool.eq_iff_iff, decide_eq_true_iff, Bool.not_eq_true', decide_eq_false_iff_not]
  omega
theorem text_nil (t : ByteArray) : (t.toList = ([] : List UInt8)) = (decide (t.toList = ([] : List UInt8)) = true) := by rw [decide_eq_true_iff]
theorem spec_EntryOk_j0 (key : ByteArray) (exp kd : Int) (t : ByteArray) (l : List ByteArray) (s : List Score) (f : List Pair) (hl : l.length ≤ maxLen) (hs : s.length ≤ maxLen) (hf : f.length ≤ maxLen) :
    Ev (fun k => spec_EntryOk.j0 k false key exp kd t l s f) (kindB kd (decide ((t.size : Int) ≤ 40)) (decide (t.toList = [])) (decide (l.length = 0)) (decide (s.length = 0)) (decide (f.length = 0)) (textsB l 16) (setB l) (scoresB s) (fieldsB f)) := by
  have hT := l2Texts_ev l hl
  have hT' := listOk_ev l hl
  have hS := spec_SetOk_ev l hl
  have hC := spec_ScoresOk_ev s hs
  have hF := spec_FieldsOk_ev f hf
  refine Ev.step (g := fun k => spec_EntryOk.j0 k _ _ _ _ _ _ _ _) (fun k => by rw [spec_EntryOk.j0]) (neg (by decide) ?_)
  generalize hbl : decide (l.length = 0) = bl
  generalize hbs : decide (s.length = 0) = bs
  generalize hbf : decide (f.length = 0) = bf
  generalize hbt : decide (t.toList = ([] : List UInt8)) = bt
  generalize hz : decide ((t.size : Int) ≤ 40) = sz
  have z1 : ((t.size : Int) ≤ 40) = (sz = true) := by rw [← hz, decide_eq_true_iff]
  have a1 := len_pos l.length
  have a2 := len_pos s.length
  have a3 := len_pos f.length
  have b1 := len_zero l.length
  have b2 := len_zero s.length
  have b3 := len_zero f.length
  have c1 := len_beq f.length
  have d1 := len_dec f.length
  have d2 := len_dec s.length
  have e1 := text_nil t
  rw [hbl] at a1 b1
  rw [hbs] at a2 b2 d2
  rw [hbf] at a3 b3 c1 d1
  rw [hbt] at e1
  generalize textsB l 16 = T at hT hT'
  generalize setB l = S at hS
  generalize scoresB s = C at hC
  generalize fieldsB f = F at hF
  clear hbl hbs hbf hbt hz
  simp only [a1, a2, a3, b1, b2, b3, c1, d1, d2, e1, z1]
  clear a1 a2 a3 b1 b2 b3 c1 d1 d2 e1 z1
  repeat' first
    | refine Ev.bind hT ?_
    | refine Ev.bind hT' ?_
    | refine Ev.bind hS ?_
    | refine Ev.bind hC ?_
    | refine Ev.bind hF ?_
    | (refine ret' ?_; simp_all [kindB]; done)
    | refine both (fun _ => ?_) (fun _ => ?_)
theorem spec_EntryOk_ev (key : ByteArray) (exp kd : Int) (t : ByteArray) (l : List ByteArray) (s : List Score) (f : List Pair) (hl : l.length ≤ maxLen) (hs : s.length ≤ maxLen) (hf : f.length ≤ maxLen) :
    Ev (fun k => spec_EntryOk.f k key exp kd t l s f) (entryB key exp kd t l s f) := by
  have hj := spec_EntryOk_j0 key exp kd t l s f hl hs hf
  unfold spec_EntryOk.f entryB
  have no : Ev (fun k => spec_EntryOk.j0 k true key exp kd t l s f) false := by
    refine Ev.step (g := fun k => spec_EntryOk.j0 k _ _ _ _ _ _ _ _) (fun k => by rw [spec_EntryOk.j0]) ?_
    exact pos rfl (ret _)
  have hK : Ev (fun _ => spec_l4Key.f key) (inB (key.size : Int) 1 12) := by
    unfold spec_l4Key.f
    exact Ev.bind (l1In_ev _ _ _) (ret _)
  have hK' : Ev (fun _ => impl_keyOk.f key) (inB (key.size : Int) 1 12) := by
    unfold impl_keyOk.f
    exact Ev.bind (within_ev _ _ _) (ret _)
  have hE := l1In_ev exp 0 2000000
  have hE' := within_ev exp 0 2000000
  first
    | refine Ev.bind hK ?_
    | refine Ev.bind hK' ?_
  cases inB (key.size : Int) 1 12 with
  | false => exact neg (by decide) no
  | true =>
    refine pos rfl ?_
    first
      | refine Ev.bind hE ?_
      | refine Ev.bind hE' ?_
    cases inB exp 0 2000000 with
    | false => exact no
    | true => exact hj
theorem impl_EntryOk_j0 (key : ByteArray) (exp kd : Int) (t : ByteArray) (l : List ByteArray) (s : List Score) (f : List Pair) (hl : l.length ≤ maxLen) (hs : s.length ≤ maxLen) (hf : f.length ≤ maxLen) :
    Ev (fun k => impl_EntryOk.j0 k false key exp kd t l s f) (kindB kd (decide ((t.size : Int) ≤ 40)) (decide (t.toList = [])) (decide (l.length = 0)) (decide (s.length = 0)) (decide (f.length = 0)) (textsB l 16) (setB l) (scoresB s) (fieldsB f)) := by
  have hT := l2Texts_ev l hl
  have hT' := listOk_ev l hl
  have hS := impl_SetOk_ev l hl
  have hC := impl_ScoresOk_ev s hs
  have hF := impl_FieldsOk_ev f hf
  refine Ev.step (g := fun k => impl_EntryOk.j0 k _ _ _ _ _ _ _ _) (fun k => by rw [impl_EntryOk.j0]) (neg (by decide) ?_)
  generalize hbl : decide (l.length = 0) = bl
  generalize hbs : decide (s.length = 0) = bs
  generalize hbf : decide (f.length = 0) = bf
  generalize hbt : decide (t.toList = ([] : List UInt8)) = bt
  generalize hz : decide ((t.size : Int) ≤ 40) = sz
  have z1 : ((t.size : Int) ≤ 40) = (sz = true) := by rw [← hz, decide_eq_true_iff]
  have a1 := len_pos l.length
  have a2 := len_pos s.length
  have a3 := len_pos f.length
  have b1 := len_zero l.length
  have b2 := len_zero s.length
  have b3 := len_zero f.length
  have c1 := len_beq f.length
  have d1 := len_dec f.length
  have d2 := len_dec s.length
  have e1 := text_nil t
  rw [hbl] at a1 b1
  rw [hbs] at a2 b2 d2
  rw [hbf] at a3 b3 c1 d1
  rw [hbt] at e1
  generalize textsB l 16 = T at hT hT'
  generalize setB l = S at hS
  generalize scoresB s = C at hC
  generalize fieldsB f = F at hF
  clear hbl hbs hbf hbt hz
  simp only [a1, a2, a3, b1, b2, b3, c1, d1, d2, e1, z1]
  clear a1 a2 a3 b1 b2 b3 c1 d1 d2 e1 z1
  repeat' first
    | refine Ev.bind hT ?_
    | refine Ev.bind hT' ?_
    | refine Ev.bind hS ?_
    | refine Ev.bind hC ?_
    | refine Ev.bind hF ?_
    | (refine ret' ?_; simp_all [kindB]; done)
    | refine both (fun _ => ?_) (fun _ => ?_)
theorem impl_EntryOk_ev (key : ByteArray) (exp kd : Int) (t : ByteArray) (l : List ByteArray) (s : List Score) (f : List Pair) (hl : l.length ≤ maxLen) (hs : s.length ≤ maxLen) (hf : f.length ≤ maxLen) :
    Ev (fun k => impl_EntryOk.f k key exp kd t l s f) (entryB key exp kd t l s f) := by
  have hj := impl_EntryOk_j0 key exp kd t l s f hl hs hf
  unfold impl_EntryOk.f entryB
  have no : Ev (fun k => impl_EntryOk.j0 k true key exp kd t l s f) false := by
    refine Ev.step (g := fun k => impl_EntryOk.j0 k _ _ _ _ _ _ _ _) (fun k => by rw [impl_EntryOk.j0]) ?_
    exact pos rfl (ret _)
  have hK : Ev (fun _ => spec_l4Key.f key) (inB (key.size : Int) 1 12) := by
    unfold spec_l4Key.f
    exact Ev.bind (l1In_ev _ _ _) (ret _)
  have hK' : Ev (fun _ => impl_keyOk.f key) (inB (key.size : Int) 1 12) := by
    unfold impl_keyOk.f
    exact Ev.bind (within_ev _ _ _) (ret _)
  have hE := l1In_ev exp 0 2000000
  have hE' := within_ev exp 0 2000000
  first
    | refine Ev.bind hK ?_
    | refine Ev.bind hK' ?_
  cases inB (key.size : Int) 1 12 with
  | false => exact neg (by decide) no
  | true =>
    refine pos rfl ?_
    first
      | refine Ev.bind hE ?_
      | refine Ev.bind hE' ?_
    cases inB exp 0 2000000 with
    | false => exact no
    | true => exact hj
end Go.Proofs.Ytnkgmcgbbldkgaa.Q
namespace Go.Proofs.Ytnkgmcgbbldkgaa.Q
open Go.RowKit Go.Proofs.YtnkgmcgbbldkgaaW.PrintWords Go.Proofs.YtnkgmcgbbldkgaaW.PrintLast Go.Proofs.Ytnkgmcgbbldkgaa.P
abbrev LEntry := S26
abbrev Entry := S32
theorem rdLEntry_lt (l : List LEntry) (i : Nat) (h : i < l.length) : rd_T26 l (i : Int) = l[i] := by
  simp [rd_T26, List.getD_eq_getElem?_getD, h]
theorem rdEntry_lt (l : List Entry) (i : Nat) (h : i < l.length) : rd_T32 l (i : Int) = l[i] := by
  simp [rd_T32, List.getD_eq_getElem?_getD, h]
def entryIn (x : LEntry) : Prop := x.f0.size ≤ maxLen ∧ x.f3.size ≤ maxLen ∧ (x.f4.length ≤ maxLen ∧ ∀ s ∈ x.f4, s.size ≤ maxLen) ∧ (x.f5.length ≤ maxLen ∧ ∀ s ∈ x.f5, s.f0.size ≤ maxLen ∧ (Lit.int .i64 s.f1).wf = true) ∧ (x.f6.length ≤ maxLen ∧ ∀ s ∈ x.f6, s.f0.size ≤ maxLen ∧ s.f1.size ≤ maxLen)
def entrySmall (x : LEntry) : Prop := x.f4.length ≤ 1048576 ∧ x.f5.length ≤ 1048576 ∧ x.f6.length ≤ 1048576
theorem szEntry_ev (x : LEntry) (hx : entryIn x) (c : Int) (h0 : 0 ≤ c) (h1 : c ≤ 1048576) :
    ∃ v, Ev (fun k => laws_szEntry.f k x.f0 x.f1 x.f2 x.f3 x.f4 x.f5 x.f6 c) v ∧ v ≤ c ∧ -1 ≤ v ∧ (0 ≤ v → entrySmall x) := by
  obtain ⟨hk, ht, ⟨hl, hls⟩, ⟨hs, hss⟩, ⟨hf, hfs⟩⟩ := hx
  unfold laws_szEntry.f
  unfold maxLen at hk ht
  rw [wrap_id (x := c - (x.f0.size : Int)) (by omega) (by omega)]
  by_cases c1 : c - (x.f0.size : Int) < 0
  · exact ⟨-1, pos c1 (ret _), by omega, by omega, by omega⟩
  · rw [wrap_id (x := c - (x.f0.size : Int) - (x.f3.size : Int)) (by omega) (by omega)]
    by_cases c2 : c - (x.f0.size : Int) - (x.f3.size : Int) < 0
    · exact ⟨-1, neg c1 (pos c2 (ret _)), by omega, by omega, by omega⟩
    · obtain ⟨v1, hv1, p1, q1, r1⟩ := szStringS_ev x.f4 hl hls (c - (x.f0.size : Int) - (x.f3.size : Int)) (by omega) (by omega)
      by_cases c3 : v1 < 0
      · exact ⟨-1, neg c1 (neg c2 (Ev.bind hv1 (pos c3 (ret _)))), by omega, by omega, by omega⟩
      · obtain ⟨v2, hv2, p2, q2, r2⟩ := szScoreS_ev x.f5 hs hss v1 (by omega) (by omega)
        by_cases c4 : v2 < 0
        · exact ⟨-1, neg c1 (neg c2 (Ev.bind hv1 (neg c3 (Ev.bind hv2 (pos c4 (ret _)))))), by omega, by omega, by omega⟩
        · obtain ⟨v3, hv3, p3, q3, r3⟩ := szPairS_ev x.f6 hf hfs v2 (by omega) (by omega)
          by_cases c5 : v3 < 0
          · exact ⟨-1, neg c1 (neg c2 (Ev.bind hv1 (neg c3 (Ev.bind hv2 (neg c4 (Ev.bind hv3 (pos c5 (ret _)))))))), by omega, by omega, by omega⟩
          · exact ⟨v3, neg c1 (neg c2 (Ev.bind hv1 (neg c3 (Ev.bind hv2 (neg c4 (Ev.bind hv3 (neg c5 (ret _)))))))), by omega, by omega, fun _ => ⟨(r1 (by omega)).1, (r2 (by omega)).1, (r3 (by omega)).1⟩⟩
theorem szEntryS_l0 (l : List LEntry) (hl : l.length ≤ maxLen) (hs : ∀ x ∈ l, entryIn x) (d : Nat) : ∀ (i : Nat) (c : Int), i + d = l.length → 0 ≤ c → c ≤ 1048576 →
    ∃ v, Ev (fun k => laws_szEntryS.l0 k l c (i : Int)) v ∧ v ≤ c ∧ -1 ≤ v ∧ (0 ≤ v → ∀ j (h : j < l.length), i ≤ j → entrySmall l[j]) := by
  unfold maxLen at hl
  induction d with
  | zero =>
    intro i c hi h0 h1
    exact ⟨c, Ev.step (g := fun k => laws_szEntryS.l0 k _ _ _) (fun k => by rw [laws_szEntryS.l0]) (neg (by omega) (ret c)), by omega, by omega, fun _ j hj hij => by omega⟩
  | succ d ih =>
    intro i c hi h0 h1
    have hlt : i < l.length := by omega
    obtain ⟨v, hv, hv1, hv2, hv3⟩ := szEntry_ev _ (hs _ (List.getElem_mem hlt)) c h0 h1
    by_cases hneg : v < 0
    · refine ⟨-1, Ev.step (g := fun k => laws_szEntryS.l0 k _ _ _) (fun k => by rw [laws_szEntryS.l0]) (pos (by omega) (pos (by omega) ?_)), by omega, by omega, by omega⟩
      rw [rdLEntry_lt _ _ hlt]
      exact Ev.bind hv (pos hneg (ret (-1)))
    · obtain ⟨u, hu, h2, h3, h4⟩ := ih (i + 1) v (by omega) (by omega) (by omega)
      refine ⟨u, Ev.step (g := fun k => laws_szEntryS.l0 k _ _ _) (fun k => by rw [laws_szEntryS.l0]) (pos (by omega) (pos (by omega) ?_)), by omega, h3, fun h5 j hj hij => ?_⟩
      · rw [rdLEntry_lt _ _ hlt, wrap_id (x := (i : Int) + 1) (by omega) (by omega)]
        exact Ev.bind hv (neg hneg hu)
      · rcases Nat.eq_or_lt_of_le hij with rfl | hij
        · exact hv3 (by omega)
        · exact h4 h5 j hj hij
theorem szEntryS_ev (l : List LEntry) (hl : l.length ≤ maxLen) (hs : ∀ x ∈ l, entryIn x) (c : Int) (h0 : 0 ≤ c) (h1 : c ≤ 1048576) :
    ∃ v, Ev (fun k => laws_szEntryS.f k l c) v ∧ v ≤ c ∧ -1 ≤ v ∧ (0 ≤ v → l.length ≤ 1048576 ∧ ∀ x ∈ l, entrySmall x) := by
  have hl' := hl
  unfold maxLen at hl'
  by_cases h : c - (l.length : Int) < 0
  · refine ⟨-1, ?_, by omega, by omega, by omega⟩
    unfold laws_szEntryS.f
    refine pos ?_ (ret _)
    rw [wrap_id (by omega) (by omega)]
    exact h
  · obtain ⟨v, hv, h2, h3, h4⟩ := szEntryS_l0 l hl hs l.length 0 (c - (l.length : Int)) (by omega) (by omega) (by omega)
    refine ⟨v, ?_, by omega, h3, fun h5 => ⟨by omega, fun s hs => ?_⟩⟩
    · unfold laws_szEntryS.f
      rw [wrap_id (by omega) (by omega)]
      exact neg h hv
    · obtain ⟨j, hj, rfl⟩ := List.getElem_of_mem hs
      exact h4 h5 j hj (by omega)
def cvEntry (x : LEntry) : Entry := ⟨x.f0, x.f1, x.f2, x.f3, x.f4, x.f5.map cvScore, x.f6.map cvPair⟩
theorem toEntry_ev (x : LEntry) (h : entrySmall x) : Ev (fun k => laws_toEntry.f k x.f0 x.f1 x.f2 x.f3 x.f4 x.f5 x.f6) (x.f0, x.f1, x.f2, x.f3, x.f4, x.f5.map cvScore, x.f6.map cvPair) := by
  obtain ⟨a, b, c⟩ := h
  unfold laws_toEntry.f
  exact Ev.bind (toStringS_ev x.f4 (by omega)) (Ev.bind (toScoreS_ev x.f5 b) (Ev.bind (toPairS_ev x.f6 c) (ret _)))
theorem toEntryS_l0 (l : List LEntry) (hl : l.length ≤ maxLen) (hs : ∀ x ∈ l, entrySmall x) (d : Nat) : ∀ (i : Nat) (x : List Entry), i + d = l.length → x.length = l.length → Ev (fun k => laws_toEntryS.l0 k l x (i : Int)) (x.take i ++ (l.drop i).map cvEntry) := by
  unfold maxLen at hl
  induction d with
  | zero =>
    intro i x hi hx
    refine Ev.step (g := fun k => laws_toEntryS.l0 k _ _ _) (fun k => by rw [laws_toEntryS.l0]) (neg (by omega) (ret' ?_))
    rw [List.drop_of_length_le (by omega), List.take_of_length_le (by omega), List.map_nil, List.append_nil]
  | succ d ih =>
    intro i x hi hx
    have hlt : i < l.length := by omega
    refine Ev.step (g := fun k => laws_toEntryS.l0 k _ _ _) (fun k => by rw [laws_toEntryS.l0]) (pos (by omega) (pos (by omega) ?_))
    rw [rdLEntry_lt _ _ hlt, wrap_id (by omega) (by omega)]
    refine Ev.bind (toEntry_ev _ (hs _ (List.getElem_mem hlt))) (pos (by omega) (of_eq (ih (i + 1) _ (by omega) (by simp [hx])) ?_))
    rw [List.drop_eq_getElem_cons hlt, Int.toNat_natCast, List.take_set, List.take_succ_eq_append_getElem (by omega), List.set_append_right _ _ (by simp; omega), List.map_cons]
    simp [show min i x.length = i by omega]
    rfl
theorem toEntryS_ev (l : List LEntry) (hl : l.length ≤ 1048576) (hs : ∀ x ∈ l, entrySmall x) : Ev (fun k => laws_toEntryS.f k l) (l.map cvEntry) := by
  unfold laws_toEntryS.f
  refine pos (by omega) (pos (by omega) ?_)
  exact of_eq (toEntryS_l0 l (by unfold maxLen; omega) hs l.length 0 _ (by omega) (by simp)) (by simp)
def entryLen (x : Entry) : Prop := x.f4.length ≤ maxLen ∧ x.f5.length ≤ maxLen ∧ x.f6.length ≤ maxLen
theorem eqEntry_same (x : Entry) (h : entryLen x) : Ev (fun k => laws_eqEntry.f k x.f0 x.f1 x.f2 x.f3 x.f4 x.f5 x.f6 x.f0 x.f1 x.f2 x.f3 x.f4 x.f5 x.f6) true := by
  obtain ⟨a, b, c⟩ := h
  unfold laws_eqEntry.f
  refine pos rfl (pos rfl (pos rfl (pos rfl (Ev.bind (eqStringS_same x.f4 a) (pos rfl (Ev.bind (eqScoreS_same x.f5 b) (pos rfl (Ev.bind (eqPairS_same x.f6 c) (pos rfl (ret _))))))))))
theorem eqEntryS_l0 (l : List Entry) (hl : l.length ≤ maxLen) (hs : ∀ x ∈ l, entryLen x) (d : Nat) : ∀ (i : Nat), i + d = l.length → Ev (fun k => laws_eqEntryS.l0 k l l (i : Int)) true := by
  unfold maxLen at hl
  induction d with
  | zero =>
    intro i hi
    exact Ev.step (g := fun k => laws_eqEntryS.l0 k _ _ _) (fun k => by rw [laws_eqEntryS.l0]) (neg (by omega) (ret _))
  | succ d ih =>
    intro i hi
    have hlt : i < l.length := by omega
    refine Ev.step (g := fun k => laws_eqEntryS.l0 k _ _ _) (fun k => by rw [laws_eqEntryS.l0]) (pos (by omega) (pos (by omega) (pos (by omega) ?_)))
    rw [rdEntry_lt _ _ hlt, wrap_id (by omega) (by omega)]
    exact Ev.bind (eqEntry_same _ (hs _ (List.getElem_mem hlt))) (pos rfl (ih (i + 1) (by omega)))
theorem eqEntryS_same (l : List Entry) (hl : l.length ≤ maxLen) (hs : ∀ x ∈ l, entryLen x) : Ev (fun k => laws_eqEntryS.f k l l) true := by
  unfold laws_eqEntryS.f
  exact pos rfl (eqEntryS_l0 l hl hs l.length 0 (by omega))
def stepB (now : Int) (l : List Entry) (i : Nat) : Bool :=
  entryB (rd_T32 l (i : Int)).f0 (rd_T32 l (i : Int)).f1 (rd_T32 l (i : Int)).f2 (rd_T32 l (i : Int)).f3 (rd_T32 l (i : Int)).f4 (rd_T32 l (i : Int)).f5 (rd_T32 l (i : Int)).f6 &&
    ((decide (i = 0) || lt (rd_T32 l ((i - 1 : Nat) : Int)).f0 (rd_T32 l (i : Int)).f0) && (decide ((rd_T32 l (i : Int)).f1 = 0) || !decide ((rd_T32 l (i : Int)).f1 ≤ now)))
def baseB (now : Int) (l : List Entry) : Bool := (List.range' 0 l.length).all (stepB now l) && (inB now 0 1000000 && decide ((l.length : Int) ≤ 12))
theorem spec_BaseOk_l0 (now : Int) (l : List Entry) (hl : l.length ≤ maxLen) (hs : ∀ x ∈ l, entryLen x) (d : Nat) : ∀ (i : Nat), i + d = l.length → Ev (fun k => spec_BaseOk.l0 k (i : Int) now l) ((List.range' i d).all (stepB now l) && (inB now 0 1000000 && decide ((l.length : Int) ≤ 12))) := by
  have hl' := hl
  unfold maxLen at hl'
  induction d with
  | zero =>
    intro i hi
    refine Ev.step (g := fun k => spec_BaseOk.l0 k _ _ _) (fun k => by rw [spec_BaseOk.l0]) (neg (by omega) (Ev.bind (l1In_ev _ _ _) ?_))
    cases inB now 0 1000000 with
    | true => exact pos rfl (ret' (by simp))
    | false => exact neg (by decide) (ret' (by simp))
  | succ d ih =>
    intro i hi
    have hlt : i < l.length := by omega
    obtain ⟨a, b, c⟩ := hs _ (List.getElem_mem hlt)
    rw [← rdEntry_lt l i hlt] at a b c
    have hE := spec_EntryOk_ev (rd_T32 l (i : Int)).f0 (rd_T32 l (i : Int)).f1 (rd_T32 l (i : Int)).f2 (rd_T32 l (i : Int)).f3 (rd_T32 l (i : Int)).f4 (rd_T32 l (i : Int)).f5 (rd_T32 l (i : Int)).f6 a b c
    have ih := ih (i + 1) (by omega)
    rw [List.range'_succ, List.all_cons, Bool.and_assoc]
    generalize ((List.range' (i + 1) d).all (stepB now l) && (inB now 0 1000000 && decide ((l.length : Int) ≤ 12))) = rest at ih
    have jj : ∀ q : Bool, Ev (fun k => spec_BaseOk.j1 k (i : Int) q now l) (!q && rest) := by
      intro q
      refine Ev.step (g := fun k => spec_BaseOk.j1 k _ _ _ _) (fun k => by rw [spec_BaseOk.j1]) ?_
      rw [wrap_id (x := (i : Int) + 1) (by omega) (by omega)]
      cases q with
      | true => exact pos rfl (ret' (by simp))
      | false => exact neg (by decide) (of_eq ih (by simp))
    refine Ev.step (g := fun k => spec_BaseOk.l0 k _ _ _) (fun k => by rw [spec_BaseOk.l0]) (pos (by omega) (pos (by omega) (Ev.bind hE ?_)))
    unfold stepB
    cases hB : entryB (rd_T32 l (i : Int)).f0 (rd_T32 l (i : Int)).f1 (rd_T32 l (i : Int)).f2 (rd_T32 l (i : Int)).f3 (rd_T32 l (i : Int)).f4 (rd_T32 l (i : Int)).f5 (rd_T32 l (i : Int)).f6 with
    | false => exact neg (by decide) (of_eq (jj true) (by simp))
    | true =>
      refine pos rfl ?_
      by_cases h0 : i = 0
      · have hn : ¬ (i : Int) > 0 := by omega
        refine both (fun h => neg hn (of_eq (jj false) (by rw [decide_eq_true h0]; simp [h]))) (fun h => both (fun h' => of_eq (jj true) (by rw [decide_eq_true h0]; simp [h, h'])) (fun h' => neg hn (of_eq (jj false) (by rw [decide_eq_true h0]; simp [h, h']))))
      · have hp : (i : Int) > 0 := by omega
        have e : wrap64 ((i : Int) - 1) = ((i - 1 : Nat) : Int) := by rw [wrap_id (by omega) (by omega)]; omega
        rw [e]
        have q1 : (0 : Int) ≤ ((i - 1 : Nat) : Int) := by omega
        have q2 : ((i - 1 : Nat) : Int) < (l.length : Int) := by omega
        refine both (fun h => pos hp (pos q1 (pos q2 (of_eq (jj _) ?_)))) (fun h => both (fun h' => of_eq (jj true) (by simp [h, h'])) (fun h' => pos hp (pos q1 (pos q2 (of_eq (jj _) ?_)))))
        · simp [h, h0, lt]
        · simp [h, h', h0, lt]
theorem spec_BaseOk_ev (now : Int) (l : List Entry) (hl : l.length ≤ maxLen) (hs : ∀ x ∈ l, entryLen x) : Ev (fun k => spec_BaseOk.f k now l) (baseB now l) := spec_BaseOk_l0 now l hl hs l.length 0 (by omega)
theorem impl_BaseOk_l0 (now : Int) (l : List Entry) (hl : l.length ≤ maxLen) (hs : ∀ x ∈ l, entryLen x) (d : Nat) : ∀ (i : Nat), i + d = l.length → Ev (fun k => impl_BaseOk.l0 k l (l.length : Int) (i : Int) now l) ((List.range' i d).all (stepB now l)) := by
  have hl' := hl
  unfold maxLen at hl'
  induction d with
  | zero =>
    intro i hi
    exact Ev.step (g := fun k => impl_BaseOk.l0 k _ _ _ _ _) (fun k => by rw [impl_BaseOk.l0]) (neg (by omega) (ret' (by simp)))
  | succ d ih =>
    intro i hi
    have hlt : i < l.length := by omega
    obtain ⟨a, b, c⟩ := hs _ (List.getElem_mem hlt)
    rw [← rdEntry_lt l i hlt] at a b c
    have hE := impl_EntryOk_ev (rd_T32 l (i : Int)).f0 (rd_T32 l (i : Int)).f1 (rd_T32 l (i : Int)).f2 (rd_T32 l (i : Int)).f3 (rd_T32 l (i : Int)).f4 (rd_T32 l (i : Int)).f5 (rd_T32 l (i : Int)).f6 a b c
    have ih := ih (i + 1) (by omega)
    rw [List.range'_succ, List.all_cons]
    generalize (List.range' (i + 1) d).all (stepB now l) = rest at ih
    have jj : ∀ q : Bool, Ev (fun k => impl_BaseOk.j2 k l (l.length : Int) (i : Int) q now l) (!q && rest) := by
      intro q
      refine Ev.step (g := fun k => impl_BaseOk.j2 k _ _ _ _ _ _) (fun k => by rw [impl_BaseOk.j2]) ?_
      rw [wrap_id (x := (i : Int) + 1) (by omega) (by omega)]
      cases q with
      | true => exact pos rfl (ret' (by simp))
      | false => exact neg (by decide) (of_eq ih (by simp))
    refine Ev.step (g := fun k => impl_BaseOk.l0 k _ _ _ _ _) (fun k => by rw [impl_BaseOk.l0]) (pos (by omega) (pos (by omega) (pos (by omega) (Ev.bind hE ?_))))
    unfold stepB
    cases hB : entryB (rd_T32 l (i : Int)).f0 (rd_T32 l (i : Int)).f1 (rd_T32 l (i : Int)).f2 (rd_T32 l (i : Int)).f3 (rd_T32 l (i : Int)).f4 (rd_T32 l (i : Int)).f5 (rd_T32 l (i : Int)).f6 with
    | false => exact neg (by decide) (of_eq (jj true) (by simp))
    | true =>
      refine pos rfl ?_
      by_cases h0 : i = 0
      · have hn : ¬ (i : Int) > 0 := by omega
        exact neg hn (both (fun h => of_eq (jj false) (by rw [decide_eq_true h0]; simp [h])) (fun h => of_eq (jj _) (by rw [decide_eq_true h0]; simp [h])))
      · have hp : (i : Int) > 0 := by omega
        have e : wrap64 ((i : Int) - 1) = ((i - 1 : Nat) : Int) := by rw [wrap_id (by omega) (by omega)]; omega
        rw [e]
        have q1 : (0 : Int) ≤ ((i - 1 : Nat) : Int) := by omega
        have q2 : ((i - 1 : Nat) : Int) < (l.length : Int) := by omega
        refine pos hp (pos q1 (pos q2 (both (fun g => both (fun h => of_eq (jj false) ?_) (fun h => of_eq (jj _) ?_)) (fun g => of_eq (jj true) ?_))))
        · simp [h, h0, lt, g]
        · simp [h, h0, lt, g]
        · simp [h0, lt, g]
theorem impl_BaseOk_ev (now : Int) (l : List Entry) (hl : l.length ≤ maxLen) (hs : ∀ x ∈ l, entryLen x) : Ev (fun k => impl_BaseOk.f k now l) (baseB now l) := by
  have hl0 := impl_BaseOk_l0 now l hl hs l.length 0 (by omega)
  have hj : ∀ q : Bool, Ev (fun k => impl_BaseOk.j0 k q now l) (!q && (List.range' 0 l.length).all (stepB now l)) := by
    intro q
    refine Ev.step (g := fun k => impl_BaseOk.j0 k _ _ _) (fun k => by rw [impl_BaseOk.j0]) ?_
    cases q with
    | true => exact pos rfl (ret' (by simp))
    | false => exact neg (by decide) (of_eq hl0 (by simp))
  unfold impl_BaseOk.f baseB
  refine Ev.bind (within_ev _ _ _) ?_
  cases inB now 0 1000000 with
  | false => exact neg (by decide) (of_eq (hj true) (by simp))
  | true =>
    refine pos rfl (of_eq (hj _) ?_)
    rw [Bool.true_and, Bool.and_comm]
    congr 1
    rw [← decide_not]
    exact decide_eq_decide.2 (by omega)
theorem of_eq' {α : Type} {g g' : Nat → Option α} {r : α} (h : Ev g r) (e : g' = g) : Ev g' r := e ▸ h
theorem len1 {α : Type} (l : List α) (x : α) : (l ++ [x]).length = l.length + 1 := by simp
def cntE (x : Entry) : Nat := 4 + x.f4.length + 2 * x.f5.length + 2 * x.f6.length
def totE (l : List Entry) : Nat := (l.map cntE).sum
noncomputable def markE (n : Int) (x : Entry) : Entry := ⟨markT n, n + 1, n + 2, markT (n + 3), marks (n + 4) x.f4.length, marksS (n + 4 + x.f4.length) x.f5.length, marksP (n + 4 + x.f4.length + 2 * x.f5.length) x.f6.length⟩
noncomputable def marksE : Int → List Entry → List Entry
  | _, [] => []
  | n, x :: r => markE n x :: marksE (n + cntE x) r
def entryCap (x : Entry) : Prop := x.f4.length ≤ 1048576 ∧ x.f5.length ≤ 1048576 ∧ x.f6.length ≤ 1048576
theorem totE_cons (x : Entry) (r : List Entry) : totE (x :: r) = cntE x + totE r := by simp [totE]
theorem totE_le (l : List Entry) (h : ∀ x ∈ l, entryCap x) : totE l ≤ l.length * 5242884 := by
  induction l with
  | nil => simp [totE]
  | cons x r ih =>
    have h1 := ih (fun y hy => h y (List.mem_cons_of_mem _ hy))
    obtain ⟨a, b, c⟩ := h x List.mem_cons_self
    rw [totE_cons, List.length_cons]
    unfold cntE
    omega
theorem rdE_app (done : List Entry) (x : Entry) (r : List Entry) : rd_T32 (done ++ x :: r) ((done.length : Nat) : Int) = x := by
  simp [rd_T32, List.getD_eq_getElem?_getD]
theorem markEntryS_l0 (rest : List Entry) : ∀ (done : List Entry) (n : Int), 0 ≤ n → n + totE rest ≤ 4611686018427387904 → done.length + rest.length ≤ 2097152 →
    Ev (fun k => laws_markEntryS.l0 k (done ++ rest) n (done.length : Int)) (n + totE rest, done ++ marksE n rest) := by
  induction rest with
  | nil =>
    intro done n h0 h1 h2
    refine Ev.step (g := fun k => laws_markEntryS.l0 k _ _ _) (fun k => by rw [laws_markEntryS.l0]) (neg (by simp) (ret' ?_))
    simp [totE, marksE]
  | cons x r ih =>
    intro done n h0 h1 h2
    rw [totE_cons] at h1 ⊢
    rw [List.length_cons] at h2
    have hc : cntE x = 4 + x.f4.length + 2 * x.f5.length + 2 * x.f6.length := rfl
    refine Ev.step (g := fun k => laws_markEntryS.l0 k _ _ _) (fun k => by rw [laws_markEntryS.l0]) (pos (by rw [List.length_append, List.length_cons]; omega) (pos (by omega) ?_))
    rw [rdE_app, wrap_id (x := n + 1) (by omega) (by omega), wrap_id (x := n + 1 + 1) (by omega) (by omega), wrap_id (x := n + 1 + 1 + 1) (by omega) (by omega), wrap_id (x := n + 1 + 1 + 1 + 1) (by omega) (by omega), wrap_id (x := (done.length : Int) + 1) (by omega) (by omega)]
    refine Ev.bind (markT_ev _ (by omega)) (Ev.bind (markT_ev _ (by omega)) (Ev.bind (markStringS_ev x.f4 (n + 1 + 1 + 1 + 1) (by omega) (by omega)) ?_))
    refine Ev.bind (markScoreS_ev x.f5 _ (by omega) (by omega)) (Ev.bind (markPairS_ev x.f6 _ (by omega) (by omega)) ?_)
    have h := ih (done ++ [markE n x]) (n + cntE x) (by omega) (by omega) (by rw [List.length_append, List.length_singleton]; omega)
    have e1 : (done ++ x :: r).set (done.length : Int).toNat (markE n x) = done ++ [markE n x] ++ r := by simp
    rw [marksE]
    refine of_eq (r := (n + cntE x + totE r, done ++ [markE n x] ++ marksE (n + cntE x) r)) ?_ (by simp; omega)
    rw [← e1, List.length_append, List.length_singleton] at h
    unfold markE at h
    rw [show n + 1 + 1 = n + 2 by omega, show n + 2 + 1 = n + 3 by omega, show n + 3 + 1 = n + 4 by omega]
    refine of_eq' h ?_
    funext k
    rw [show n + 4 + (x.f4.length : Int) + 2 * (x.f5.length : Int) + 2 * (x.f6.length : Int) = n + (cntE x : Int) by rw [hc]; omega]
    rfl
theorem markEntryS_ev (l : List Entry) (hl : l.length ≤ 1048576) (hs : ∀ x ∈ l, entryCap x) : Ev (fun k => laws_markEntryS.f k l 1) (1 + totE l, marksE 1 l) := by
  have h1 := totE_le l hs
  have h2 : l.length * 5242884 ≤ 1048576 * 5242884 := Nat.mul_le_mul_right _ hl
  simpa [laws_markEntryS.f] using markEntryS_l0 l [] 1 (by omega) (by omega) (by simp; omega)
theorem markBase_ev (now : Int) (l : List Entry) (hl : l.length ≤ 1048576) (hs : ∀ x ∈ l, entryCap x) : Ev (fun k => laws_markBase.f k now l 1) (1 + totE l, marksE 1 l) := markEntryS_ev l hl hs
theorem eqBase_same (now : Int) (l : List Entry) (hl : l.length ≤ 1048576) (hs : ∀ x ∈ l, entryCap x) : Ev (fun k => laws_eqBase.f k now l now l) true := by
  unfold laws_eqBase.f
  exact pos rfl (Ev.bind (eqEntryS_same l (by unfold maxLen; omega) (fun x hx => by obtain ⟨a, b, c⟩ := hs x hx; exact ⟨by unfold maxLen; omega, by unfold maxLen; omega, by unfold maxLen; omega⟩)) (pos rfl (ret _)))
theorem toBase_ev (now : Int) (l : List LEntry) (hl : l.length ≤ 1048576) (hs : ∀ x ∈ l, entrySmall x) : Ev (fun k => laws_toBase.f k now l) (now, l.map cvEntry) := by
  unfold laws_toBase.f
  exact Ev.bind (toEntryS_ev l hl hs) (ret _)
theorem szBase_ev (now : Int) (l : List LEntry) (hl : l.length ≤ maxLen)
    (hs : ∀ x ∈ l, x.f0.size ≤ maxLen ∧ (Lit.int .i64 x.f1).wf = true ∧ (Lit.int .i64 x.f2).wf = true ∧ x.f3.size ≤ maxLen ∧ (x.f4.length ≤ maxLen ∧ ∀ s ∈ x.f4, s.size ≤ maxLen) ∧ (x.f5.length ≤ maxLen ∧ ∀ s ∈ x.f5, s.f0.size ≤ maxLen ∧ (Lit.int .i64 s.f1).wf = true) ∧ (x.f6.length ≤ maxLen ∧ ∀ s ∈ x.f6, s.f0.size ≤ maxLen ∧ s.f1.size ≤ maxLen)) :
    ∃ v, Ev (fun k => laws_szBase.f k now l 1048576) v ∧ (¬ v < 0 → l.length ≤ 1048576 ∧ ∀ x ∈ l, entrySmall x) := by
  obtain ⟨v, hv, h1, h2, h3⟩ := szEntryS_ev l hl (fun x hx => by
    obtain ⟨a, _, _, b, c, d, e⟩ := hs x hx
    exact ⟨a, b, c, d, e⟩) 1048576 (by omega) (by omega)
  refine ⟨if v < 0 then -1 else v, ?_, fun h => h3 ?_⟩
  · unfold laws_szBase.f
    exact Ev.bind hv (both (fun h => ret' (if_pos h).symm) (fun h => ret' (if_neg h).symm))
  · by_cases q : v < 0
    · rw [if_pos q] at h; omega
    · omega
theorem cvEntry_cap {x : LEntry} (h : entrySmall x) : entryCap (cvEntry x) := ⟨h.1, by show (x.f5.map cvScore).length ≤ _; rw [List.length_map]; exact h.2.1, by show (x.f6.map cvPair).length ≤ _; rw [List.length_map]; exact h.2.2⟩
theorem cap_len {x : Entry} (h : entryCap x) : entryLen x := ⟨by have := h.1; unfold maxLen; omega, by have := h.2.1; unfold maxLen; omega, by have := h.2.2; unfold maxLen; omega⟩
theorem baseB_at {now : Int} {l : List Entry} (h : baseB now l = true) (i : Nat) (hi : i < l.length) : stepB now l i = true := by
  unfold baseB at h
  simp only [Bool.and_eq_true, List.all_eq_true] at h
  exact h.1 i (List.mem_range'_1.2 ⟨by omega, by omega⟩)
theorem baseB_lt {now : Int} {l : List Entry} (h : baseB now l = true) (i : Nat) (hi : i + 1 < l.length) : lt l[i].f0 l[i + 1].f0 = true := by
  have h1 := baseB_at h (i + 1) hi
  unfold stepB at h1
  simp only [Bool.and_eq_true, Bool.or_eq_true, decide_eq_true_eq] at h1
  have h2 := h1.2.1
  rw [Nat.add_sub_cancel, rdEntry_lt l i (by omega), rdEntry_lt l (i + 1) hi] at h2
  rcases h2 with h2 | h2
  · omega
  · exact h2
theorem l2Copy_ev (l : List ByteArray) (h : l.length < 8796093022208) : Ev (fun _ => spec_l2Copy.f l) l := by
  unfold spec_l2Copy.f
  refine Ev.bind (ret _) (pos ?_ (ret' rfl))
  simpa using h
theorem copied_ev (l : List ByteArray) (h : l.length < 8796093022208) : Ev (fun _ => impl_copied.f l) l := by
  unfold impl_copied.f
  refine Ev.bind (ret _) (pos ?_ (ret' rfl))
  simpa using h
theorem entry_l4_ev (x : Entry) (h : entryCap x) : Ev (fun _ => spec_l4Entry.f x.f0 x.f1 x.f2 x.f3 x.f4 x.f5 x.f6) (x.f0, x.f1, x.f2, x.f3, x.f4, x.f5, x.f6) := by
  obtain ⟨a, b, c⟩ := h
  unfold spec_l4Entry.f
  exact Ev.bind (l2Copy_ev x.f4 (by omega)) (Ev.bind (ret _) (pos (by simp; omega) (Ev.bind (ret _) (pos (by simp; omega) (ret' rfl)))))
theorem entry_clone_ev (x : Entry) (h : entryCap x) : Ev (fun _ => impl_cloneEntry.f x.f0 x.f1 x.f2 x.f3 x.f4 x.f5 x.f6) (x.f0, x.f1, x.f2, x.f3, x.f4, x.f5, x.f6) := by
  obtain ⟨a, b, c⟩ := h
  have h5 : Ev (fun _ => impl_copiedScores.f x.f5) x.f5 := by
    unfold impl_copiedScores.f
    exact Ev.bind (ret _) (pos (by simp; omega) (ret' rfl))
  have h6 : Ev (fun _ => impl_copiedPairs.f x.f6) x.f6 := by
    unfold impl_copiedPairs.f
    exact Ev.bind (ret _) (pos (by simp; omega) (ret' rfl))
  unfold impl_cloneEntry.f
  exact Ev.bind (copied_ev x.f4 (by omega)) (Ev.bind h5 (Ev.bind h6 (ret' rfl)))
theorem baseB_sorted {now : Int} {l : List Entry} (h : baseB now l = true) : l.Pairwise (fun x y => lt x.f0 y.f0 = true) := by
  have hd : ∀ (d i : Nat) (hj : i + 1 + d < l.length), lt l[i].f0 l[i + 1 + d].f0 = true := by
    intro d
    induction d with
    | zero => intro i hj; exact baseB_lt h i hj
    | succ d ih => intro i hj; exact lt_trans (ih i (by omega)) (baseB_lt h (i + 1 + d) hj)
  rw [List.pairwise_iff_getElem]
  intro i j hi hj hij
  obtain ⟨d, rfl⟩ : ∃ d, j = i + 1 + d := ⟨j - (i + 1), by omega⟩
  exact hd d i hj
theorem from_none (t : ByteArray) : ∀ (l : List Entry) (i : Nat), (∀ x ∈ l, x.f0 ≠ t) → impl_Base_at.from t l i = -1
  | [], _, _ => rfl
  | x :: r, i, h => by
    rw [impl_Base_at.from, if_neg (fun e => h x List.mem_cons_self (toList_inj e))]
    exact from_none t r (i + 1) (fun y hy => h y (List.mem_cons_of_mem _ hy))
theorem from_at (t : ByteArray) : ∀ (l : List Entry) (i : Nat), impl_Base_at.from t l i = -1 ∨ ∃ n, n < l.length ∧ impl_Base_at.from t l i = ((i + n : Nat) : Int)
  | [], _ => .inl rfl
  | x :: r, i => by
    rw [impl_Base_at.from]
    split
    · exact .inr ⟨0, by simp, by simp⟩
    · rcases from_at t r (i + 1) with h | ⟨n, h1, h2⟩
      · exact .inl h
      · exact .inr ⟨n + 1, by simp; omega, by rw [h2]; congr 1; omega⟩
theorem l4At_l0 (now : Int) (t : ByteArray) (rest : List Entry) : ∀ (done : List Entry), done.length + rest.length ≤ 1048576 → rest.Pairwise (fun x y => lt x.f0 y.f0 = true) →
    ∃ j b, Ev (fun k => spec_l4At.l0 k t (done.length : Int) now (done ++ rest)) (j, b) ∧ (b = true → j = impl_Base_at.from t rest done.length ∧ 0 ≤ j) ∧ (b = false → impl_Base_at.from t rest done.length = -1) := by
  induction rest with
  | nil =>
    intro done _ _
    exact ⟨_, false, Ev.step (g := fun k => spec_l4At.l0 k _ _ _ _) (fun k => by rw [spec_l4At.l0]) (neg (by simp) (ret _)), fun h => (by cases h), fun _ => rfl⟩
  | cons x r ih =>
    intro done h2 hp
    rw [List.length_cons] at h2
    obtain ⟨hx, hr⟩ := List.pairwise_cons.1 hp
    have q : (done.length : Int) < ((done ++ x :: r).length : Int) := by rw [List.length_append, List.length_cons]; omega
    by_cases c : lt x.f0 t = true
    · obtain ⟨j, b, h, h3, h4⟩ := ih (done ++ [x]) (by simp; omega) hr
      have e1 : done ++ x :: r = done ++ [x] ++ r := by simp
      rw [← e1, len1 done x] at h
      rw [len1 done x] at h3 h4
      have ef : impl_Base_at.from t (x :: r) done.length = impl_Base_at.from t r (done.length + 1) := by rw [impl_Base_at.from, if_neg (fun e => lt_ne c (toList_inj e))]
      refine ⟨j, b, Ev.step (g := fun k => spec_l4At.l0 k _ _ _ _) (fun k => by rw [spec_l4At.l0]) (pos q (pos (by omega) ?_)), by rw [ef]; exact h3, by rw [ef]; exact h4⟩
      rw [rdE_app, wrap_id (x := (done.length : Int) + 1) (by omega) (by omega)]
      exact pos c h
    · refine ⟨(done.length : Int), x.f0.toList == t.toList, Ev.step (g := fun k => spec_l4At.l0 k _ _ _ _) (fun k => by rw [spec_l4At.l0]) (pos q (pos (by omega) ?_)), fun h => ?_, fun h => ?_⟩
      · rw [rdE_app]
        exact neg c (ret _)
      · rw [impl_Base_at.from, if_pos (by simpa using h)]
        exact ⟨rfl, by omega⟩
      · have hn : x.f0 ≠ t := fun e => by rw [e] at h; simp at h
        have hlt : lt t x.f0 = true := by
          rcases lt_tri x.f0 t with h1 | h1 | h1
          · exact absurd h1 c
          · exact absurd h1 hn
          · exact h1
        refine from_none t _ _ (fun y hy => ?_)
        rcases List.mem_cons.1 hy with rfl | hy
        · exact hn
        · exact (lt_ne (lt_trans hlt (hx y hy))).symm
def getB (now : Int) (l : List Entry) (t : ByteArray) : ByteArray × Int × Int × ByteArray × List ByteArray × List Score × List Pair × Bool :=
  if baseB now l = true then
    (if impl_Base_at.from t l 0 < 0 then (⟨#[]⟩, 0, 0, ⟨#[]⟩, [], [], [], false)
     else let x := rd_T32 l (impl_Base_at.from t l 0); (x.f0, x.f1, x.f2, x.f3, x.f4, x.f5, x.f6, true))
  else (⟨#[]⟩, 0, 0, ⟨#[]⟩, [], [], [], false)
theorem getB_cap (now : Int) (l : List Entry) (t : ByteArray) (hs : ∀ x ∈ l, entryCap x) : (getB now l t).2.2.2.2.1.length ≤ 1048576 ∧ (getB now l t).2.2.2.2.2.1.length ≤ 1048576 ∧ (getB now l t).2.2.2.2.2.2.1.length ≤ 1048576 := by
  unfold getB
  split
  · split
    · exact ⟨Nat.zero_le _, Nat.zero_le _, Nat.zero_le _⟩
    · rename_i h
      rcases from_at t l 0 with h1 | ⟨n, h1, h2⟩
      · rw [h1] at h; omega
      · rw [h2, Nat.zero_add, rdEntry_lt l n h1]
        exact hs _ (List.getElem_mem h1)
  · exact ⟨Nat.zero_le _, Nat.zero_le _, Nat.zero_le _⟩
theorem getB_at {now : Int} {l : List Entry} {t : ByteArray} {n : Nat} (hb : baseB now l = true) (h1 : n < l.length) (h2 : impl_Base_at.from t l 0 = ((0 + n : Nat) : Int)) : getB now l t = (l[n].f0, l[n].f1, l[n].f2, l[n].f3, l[n].f4, l[n].f5, l[n].f6, true) := by
  unfold getB
  rw [if_pos hb, h2, if_neg (by omega), Nat.zero_add, rdEntry_lt l n h1]
theorem impl_BaseGet_ev (now : Int) (l : List Entry) (t : ByteArray) (hl : l.length ≤ 1048576) (hs : ∀ x ∈ l, entryCap x) : Ev (fun k => impl_BaseGet.f k now l t) (getB now l t) := by
  have hB := impl_BaseOk_ev now l (by unfold maxLen; omega) (fun y hy => cap_len (hs y hy))
  unfold impl_BaseGet.f
  refine Ev.bind (show Ev (fun _ => impl_Base_at.f now l t) (impl_Base_at.from t l 0) from ret _) (Ev.bind hB ?_)
  cases hb : baseB now l with
  | false => exact of_eq (neg (by decide) (ret _)) (by unfold getB; rw [hb]; rfl)
  | true =>
    refine pos rfl ?_
    by_cases c : impl_Base_at.from t l 0 < 0
    · exact of_eq (pos c (ret _)) (by unfold getB; rw [if_pos hb, if_pos c])
    · rcases from_at t l 0 with h1 | ⟨n, h1, h2⟩
      · rw [h1] at c; omega
      · rw [getB_at hb h1 h2]
        refine neg c (pos (by omega) (pos (by omega) ?_))
        rw [h2, Nat.zero_add, rdEntry_lt l n h1]
        exact Ev.bind (entry_clone_ev _ (hs _ (List.getElem_mem h1))) (ret' rfl)
theorem spec_BaseGet_ev (now : Int) (l : List Entry) (t : ByteArray) (hl : l.length ≤ 1048576) (hs : ∀ x ∈ l, entryCap x) : Ev (fun k => spec_BaseGet.f k now l t) (getB now l t) := by
  have hB := spec_BaseOk_ev now l (by unfold maxLen; omega) (fun y hy => cap_len (hs y hy))
  unfold spec_BaseGet.f
  refine Ev.bind hB ?_
  cases hb : baseB now l with
  | false => exact of_eq (neg (by decide) (ret _)) (by unfold getB; rw [hb]; rfl)
  | true =>
    refine pos rfl ?_
    obtain ⟨j, b, h, h3, h4⟩ := l4At_l0 now t l [] (by simpa using hl) (baseB_sorted hb)
    have hA : Ev (fun k => spec_l4At.f k now l t) (j, b) := by simpa [spec_l4At.f] using h
    refine Ev.bind hA ?_
    cases b with
    | false =>
      have h6 := h4 rfl
      rw [List.length_nil] at h6
      exact of_eq (neg (by simp) (ret _)) (by unfold getB; rw [if_pos hb, h6]; rfl)
    | true =>
      obtain ⟨rfl, h5⟩ := h3 rfl
      rw [List.length_nil] at hA h5
      refine pos rfl ?_
      rcases from_at t l 0 with h1 | ⟨n, h1, h2⟩
      · rw [h1] at h5; omega
      · rw [h2, Nat.zero_add] at hA
        have hG : Ev (fun k => spec_l4Get.f k now l t) (l[n].f0, l[n].f1, l[n].f2, l[n].f3, l[n].f4, l[n].f5, l[n].f6) := by
          unfold spec_l4Get.f
          refine Ev.bind hA (pos rfl (pos (by omega) (pos (by omega) ?_)))
          dsimp only
          rw [rdEntry_lt l n h1]
          exact Ev.bind (entry_l4_ev _ (hs _ (List.getElem_mem h1))) (ret' rfl)
        rw [getB_at hb h1 h2]
        exact Ev.bind hG (ret' rfl)
theorem markEntry_ev (a0 : ByteArray) (a1 a2 : Int) (a3 : ByteArray) (l4 : List ByteArray) (l5 : List Score) (l6 : List Pair) (h4 : l4.length ≤ 1048576) (h5 : l5.length ≤ 1048576) (h6 : l6.length ≤ 1048576) :
    Ev (fun k => laws_markEntry.f k a0 a1 a2 a3 l4 l5 l6 1) (1 + l4.length + 2 * l5.length + 2 * l6.length, marks 1 l4.length, marksS (1 + l4.length) l5.length, marksP (1 + l4.length + 2 * l5.length) l6.length) := by
  unfold laws_markEntry.f
  exact Ev.bind (markStringS_ev l4 1 (by omega) (by omega)) (Ev.bind (markScoreS_ev l5 _ (by dsimp only; omega) (by dsimp only; omega)) (Ev.bind (markPairS_ev l6 _ (by dsimp only; omega) (by dsimp only; omega)) (ret' rfl)))
theorem heldEntry_ev (a0 : ByteArray) (a1 a2 : Int) (a3 : ByteArray) (n4 n5 n6 : Nat) (h4 : n4 ≤ 1048576) (h5 : n5 ≤ 1048576) (h6 : n6 ≤ 1048576) :
    Ev (fun k => laws_heldEntry.f k a0 a1 a2 a3 (marks 1 n4) (marksS (1 + n4) n5) (marksP (1 + n4 + 2 * n5) n6) 1) (1 + n4 + 2 * n5 + 2 * n6) := by
  unfold laws_heldEntry.f
  exact Ev.bind (heldStringS_ev 1 n4 (by omega) (by omega)) (neg (by omega) (Ev.bind (heldScoreS_ev _ n5 (by omega) (by omega)) (neg (by omega) (Ev.bind (heldPairS_ev _ n6 (by omega) (by omega)) (neg (by omega) (ret _))))))
theorem FnExactBaseGet_pure (now : Int) (l : List LEntry) (t : ByteArray) (_hn : (Lit.int .i64 now).wf = true) (hl : l.length ≤ maxLen)
    (hs : ∀ x ∈ l, x.f0.size ≤ maxLen ∧ (Lit.int .i64 x.f1).wf = true ∧ (Lit.int .i64 x.f2).wf = true ∧ x.f3.size ≤ maxLen ∧ (x.f4.length ≤ maxLen ∧ ∀ s ∈ x.f4, s.size ≤ maxLen) ∧ (x.f5.length ≤ maxLen ∧ ∀ s ∈ x.f5, s.f0.size ≤ maxLen ∧ (Lit.int .i64 s.f1).wf = true) ∧ (x.f6.length ≤ maxLen ∧ ∀ s ∈ x.f6, s.f0.size ≤ maxLen ∧ s.f1.size ≤ maxLen)) (_ht : t.size ≤ 140737488351232) :
    ∃ k, laws_FnExactBaseGet.f k now l t = some true := by
  refine exists_of (r := true) ?_
  unfold laws_FnExactBaseGet.f
  refine both (fun _ => ret _) (fun _ => ?_)
  obtain ⟨v, hv, h1⟩ := szBase_ev now l hl hs
  refine Ev.bind hv (both (fun _ => ret _) (fun h => ?_))
  obtain ⟨h4, h5⟩ := h1 h
  have hT := toBase_ev now l h4 h5
  have hlen : (l.map cvEntry).length ≤ 1048576 := by rw [List.length_map]; exact h4
  have hc : ∀ x ∈ l.map cvEntry, entryCap x := by
    intro x hx
    obtain ⟨y, hy, rfl⟩ := List.mem_map.1 hx
    exact cvEntry_cap (h5 y hy)
  generalize l.map cvEntry = m at hT hlen hc
  have hS := spec_BaseGet_ev now m t hlen hc
  have hI := impl_BaseGet_ev now m t hlen hc
  have hg := getB_cap now m t hc
  generalize getB now m t = q at hS hI hg
  obtain ⟨r1, r2, r3, r4, r5, r6, r7, r8⟩ := q
  dsimp only at hg
  obtain ⟨g5, g6, g7⟩ := hg
  have hE := eqBase_same now m hlen hc
  have hE1 := eqEntry_same ⟨r1, r2, r3, r4, r5, r6, r7⟩ (cap_len ⟨g5, g6, g7⟩)
  dsimp only at hE1
  have hm := markBase_ev now m hlen hc
  have hm1 := markEntry_ev r1 r2 r3 r4 r5 r6 r7 g5 g6 g7
  have hh1 := heldEntry_ev r1 r2 r3 r4 r5.length r6.length r7.length g5 g6 g7
  repeat' first
    | exact ret _
    | exact ret' rfl
    | dsimp only
    | refine Ev.bind (hT) ?_
    | refine Ev.bind (hS) ?_
    | refine Ev.bind (hI) ?_
    | refine Ev.bind (hE) ?_
    | refine Ev.bind (hE1) ?_
    | refine Ev.bind (hm) ?_
    | refine Ev.bind (hm1) ?_
    | refine Ev.bind (hh1) ?_
    | refine pos rfl ?_
    | refine neg (by decide) ?_
    | refine pos (by omega) ?_
    | refine neg (by omega) ?_
    | refine neg (by simp) ?_
end Go.Proofs.Ytnkgmcgbbldkgaa.Q
