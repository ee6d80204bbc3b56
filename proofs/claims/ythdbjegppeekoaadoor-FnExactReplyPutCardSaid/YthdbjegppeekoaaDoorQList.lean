import Derived.Test.YthdbjegppeekoaaDoorPx1
import Derived.Test.YthdbjegppeekoaaDoorQEv
/- Plain lemmas on lists of texts: the law's own helpers (size, copy, equal), 'texts are ok' on both sides. -/
namespace Go.Proofs.YthdbjegppeekoaaDoor.Q
open Go.RowKit Go.Proofs.YthdbjegppeekoaaDoorW.PrintWords Go.Proofs.YthdbjegppeekoaaDoorW.PrintLast Go.Proofs.YthdbjegppeekoaaDoor.P

theorem szStringS_l0 (l : List ByteArray) (hl : l.length ≤ maxLen) (hs : ∀ s ∈ l, s.size ≤ maxLen) (d : Nat) : ∀ (i : Nat) (c : Int), i + d = l.length → 0 ≤ c → c ≤ 1048576 →
    ∃ v, Ev (fun k => laws_szStringS.l0 k l c (i : Int)) v ∧ v ≤ c ∧ -1 ≤ v ∧ (0 ≤ v → ∀ j (h : j < l.length), i ≤ j → l[j].size ≤ 1048576) := by
  unfold maxLen at hl hs
  induction d with
  | zero =>
    intro i c hi h0 h1
    exact ⟨c, Ev.step (fun k => by rw [laws_szStringS.l0]) (neg (by omega) (ret c)), by omega, by omega, fun _ j hj hij => by omega⟩
  | succ d ih =>
    intro i c hi h0 h1
    have hlt : i < l.length := by omega
    have hsz := hs _ (List.getElem_mem hlt)
    by_cases hneg : c - (l[i].size : Int) < 0
    · refine ⟨-1, Ev.step (fun k => by rw [laws_szStringS.l0]) (pos (by omega) (pos (by omega) (pos ?_ (ret (-1))))), by omega, by omega, by omega⟩
      rw [rdOf_lt _ _ _ hlt, wrap_id (by omega) (by omega)]
      exact hneg
    · obtain ⟨v, hv, h2, h3, h4⟩ := ih (i + 1) (c - (l[i].size : Int)) (by omega) (by omega) (by omega)
      refine ⟨v, Ev.step (fun k => by rw [laws_szStringS.l0]) (pos (by omega) (pos (by omega) (neg ?_ ?_))), by omega, h3, fun h5 j hj hij => ?_⟩
      · rw [rdOf_lt _ _ _ hlt, wrap_id (by omega) (by omega)]
        exact hneg
      · rw [rdOf_lt _ _ _ hlt, wrap_id (x := c - _) (by omega) (by omega), wrap_id (x := (i : Int) + 1) (by omega) (by omega)]
        exact hv
      · rcases Nat.eq_or_lt_of_le hij with rfl | hij
        · omega
        · exact h4 h5 j hj hij
theorem szStringS_ev (l : List ByteArray) (hl : l.length ≤ maxLen) (hs : ∀ s ∈ l, s.size ≤ maxLen) (c : Int) (h0 : 0 ≤ c) (h1 : c ≤ 1048576) :
    ∃ v, Ev (fun k => laws_szStringS.f k l c) v ∧ v ≤ c ∧ -1 ≤ v ∧ (0 ≤ v → l.length ≤ 1048576 ∧ ∀ s ∈ l, s.size ≤ 1048576) := by
  have hl' := hl
  unfold maxLen at hl'
  by_cases h : c - (l.length : Int) < 0
  · refine ⟨-1, ?_, by omega, by omega, by omega⟩
    unfold laws_szStringS.f
    refine pos ?_ (ret _)
    rw [wrap_id (by omega) (by omega)]
    exact h
  · obtain ⟨v, hv, h2, h3, h4⟩ := szStringS_l0 l hl hs l.length 0 (c - (l.length : Int)) (by omega) (by omega) (by omega)
    refine ⟨v, ?_, by omega, h3, fun h5 => ⟨by omega, fun s hs => ?_⟩⟩
    · unfold laws_szStringS.f
      rw [wrap_id (by omega) (by omega)]
      exact neg h hv
    · obtain ⟨j, hj, rfl⟩ := List.getElem_of_mem hs
      exact h4 h5 j hj (by omega)

/-- The texts of a list are at most forty bytes long, and at most m. -/
def textsB (l : List ByteArray) (m : Int) : Bool := l.all (fun s => decide (s.size ≤ 40)) && decide ((l.length : Int) ≤ m)
theorem toStringS_l0 (l : List ByteArray) (hl : l.length ≤ maxLen) (d : Nat) : ∀ (i : Nat) (x : List ByteArray), i + d = l.length → x.length = l.length → Ev (fun k => laws_toStringS.l0 k l x (i : Int)) (x.take i ++ l.drop i) := by
  unfold maxLen at hl
  induction d with
  | zero =>
    intro i x hi hx
    refine Ev.step (fun k => by rw [laws_toStringS.l0]) (neg (by omega) (ret' ?_))
    rw [List.drop_of_length_le (by omega), List.take_of_length_le (by omega), List.append_nil]
  | succ d ih =>
    intro i x hi hx
    have hlt : i < l.length := by omega
    refine Ev.step (fun k => by rw [laws_toStringS.l0]) (pos (by omega) (pos (by omega) (pos (by omega) ?_)))
    rw [rdOf_lt _ _ _ hlt, wrap_id (by omega) (by omega)]
    refine of_eq (ih (i + 1) _ (by omega) (by simp [hx])) ?_
    rw [List.drop_eq_getElem_cons hlt, Int.toNat_natCast, List.take_set, List.take_succ_eq_append_getElem (by omega), List.set_append_right _ _ (by simp; omega)]
    simp [show min i x.length = i by omega]
theorem toStringS_ev (l : List ByteArray) (hl : l.length ≤ 17592186044416) : Ev (fun k => laws_toStringS.f k l) l := by
  unfold laws_toStringS.f
  refine pos (by omega) (pos (by omega) ?_)
  exact of_eq (toStringS_l0 l (by unfold maxLen; omega) l.length 0 _ (by omega) (by simp)) (by simp)

theorem eqStringS_l0 (l l' : List ByteArray) (hl : l.length ≤ maxLen) (he : l.length = l'.length) (d : Nat) : ∀ (i : Nat), i + d = l.length → Ev (fun k => laws_eqStringS.l0 k l l' (i : Int)) (decide (l.drop i = l'.drop i)) := by
  unfold maxLen at hl
  induction d with
  | zero =>
    intro i hi
    refine Ev.step (fun k => by rw [laws_eqStringS.l0]) (neg (by omega) (ret' ?_))
    rw [List.drop_of_length_le (by omega), List.drop_of_length_le (by omega)]
    simp
  | succ d ih =>
    intro i hi
    have hlt : i < l.length := by omega
    have hlt' : i < l'.length := by omega
    refine Ev.step (fun k => by rw [laws_eqStringS.l0]) (pos (by omega) (pos (by omega) (pos (by omega) ?_)))
    rw [rdOf_lt _ _ _ hlt, rdOf_lt _ _ _ hlt', wrap_id (by omega) (by omega), List.drop_eq_getElem_cons hlt, List.drop_eq_getElem_cons hlt']
    refine both (fun h => ?_) (fun h => ret' ?_)
    · refine of_eq (ih (i + 1) (by omega)) ?_
      rw [toList_inj h]
      exact decide_eq_decide.2 (by simp only [List.cons.injEq, true_and])
    · exact (decide_eq_false (fun e => h (by rw [(List.cons.inj e).1]))).symm
theorem eqStringS_ev (l l' : List ByteArray) (hl : l.length ≤ maxLen) : Ev (fun k => laws_eqStringS.f k l l') (decide (l = l')) := by
  unfold laws_eqStringS.f
  refine both (fun h => ?_) (fun h => ret' ?_)
  · exact eqStringS_l0 l l' hl (by omega) l.length 0 (by omega)
  · have : l ≠ l' := fun e => h (by rw [e])
    simp [this]
theorem eqStringS_same (l : List ByteArray) (hl : l.length ≤ maxLen) : Ev (fun k => laws_eqStringS.f k l l) true := of_eq (eqStringS_ev l l hl) (by simp)

end Go.Proofs.YthdbjegppeekoaaDoor.Q
