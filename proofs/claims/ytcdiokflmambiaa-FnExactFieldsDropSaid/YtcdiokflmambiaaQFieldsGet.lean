import Derived.Test.YtcdiokflmambiaaPx1
import Derived.Test.YtcdiokflmambiaaQFieldsOk
/- Plain lemmas: the place of a field, FieldsGet and FieldsDrop, on both sides. -/
namespace Go.Proofs.Ytcdiokflmambiaa.Q
open Go.RowKit Go.Proofs.YtcdiokflmambiaaW.PrintWords Go.Proofs.YtcdiokflmambiaaW.PrintLast Go.Proofs.Ytcdiokflmambiaa.P

/-- The place of a field, or where it would come; and whether it is there. -/
def atP (t : ByteArray) : List Pair → Nat → Nat × Bool
  | [], i => (i, false)
  | x :: r, i => if lt x.f0 t = true then atP t r (i + 1) else (i, x.f0.toList == t.toList)
theorem l3At_l0 (l : List Pair) (hl : l.length ≤ maxLen) (t : ByteArray) (d : Nat) : ∀ (i : Nat), i + d = l.length → Ev (fun k => spec_l3At.l0 k l t (i : Int)) (((atP t (l.drop i) i).1 : Int), (atP t (l.drop i) i).2) := by
  unfold maxLen at hl
  induction d with
  | zero =>
    intro i hi
    refine Ev.step (g := fun k => spec_l3At.l0 k _ _ _) (fun k => by rw [spec_l3At.l0]) (neg (by omega) (ret' ?_))
    rw [List.drop_of_length_le (by omega)]
    rfl
  | succ d ih =>
    intro i hi
    have hlt : i < l.length := by omega
    refine Ev.step (g := fun k => spec_l3At.l0 k _ _ _) (fun k => by rw [spec_l3At.l0]) (pos (by omega) (pos (by omega) ?_))
    rw [rdPair_lt _ _ hlt, List.drop_eq_getElem_cons hlt, wrap_id (x := (i : Int) + 1) (by omega) (by omega), atP]
    refine both (fun h => ?_) (fun h => ?_)
    · rw [if_pos (show lt l[i].f0 t = true from h)]
      exact ih (i + 1) (by omega)
    · rw [if_neg (show ¬ lt l[i].f0 t = true from h)]
      exact ret _
theorem l3At_ev (l : List Pair) (hl : l.length ≤ maxLen) (t : ByteArray) : Ev (fun k => spec_l3At.f k l t) (((atP t l 0).1 : Int), (atP t l 0).2) := l3At_l0 l hl t l.length 0 (by omega)
theorem from_none (t : ByteArray) (r : List Pair) : ∀ (y : ByteArray) (i : Nat), ¬ lt y t = true → fieldsUp (some y) r = true → impl_fieldAt.from t r i = -1 := by
  induction r with
  | nil => intro y i _ _; rfl
  | cons x r ih =>
    intro y i hy hf
    simp only [fieldsUp, ahead, Bool.and_eq_true] at hf
    obtain ⟨_, _, h1, h2⟩ := hf
    rw [impl_fieldAt.from, if_neg (fun e => hy (by rw [← toList_inj e]; exact h1))]
    exact ih x.f0 (i + 1) (fun e => hy (lt_trans h1 e)) h2
theorem from_at (t : ByteArray) (r : List Pair) : ∀ (p : Option ByteArray) (i : Nat), fieldsUp p r = true → impl_fieldAt.from t r i = if (atP t r i).2 = true then ((atP t r i).1 : Int) else -1 := by
  induction r with
  | nil => intro p i _; rfl
  | cons x r ih =>
    intro p i hf
    simp only [fieldsUp, Bool.and_eq_true] at hf
    obtain ⟨_, _, _, h2⟩ := hf
    rw [impl_fieldAt.from, atP]
    by_cases h : lt x.f0 t = true
    · rw [if_pos h, if_neg (fun e => lt_ne h (toList_inj e))]
      exact ih _ _ h2
    · rw [if_neg h]
      by_cases h' : x.f0.toList = t.toList
      · simp [h']
      · rw [if_neg h', from_none t r x.f0 (i + 1) h h2]
        simp [h']
theorem atP_bd (t : ByteArray) (r : List Pair) : ∀ (i : Nat), i ≤ (atP t r i).1 ∧ (atP t r i).1 ≤ i + r.length ∧ ((atP t r i).2 = true → (atP t r i).1 < i + r.length) := by
  induction r with
  | nil => intro i; simp [atP]
  | cons x r ih =>
    intro i
    rw [atP]
    by_cases h : lt x.f0 t = true
    · rw [if_pos h]
      obtain ⟨a, b, c⟩ := ih (i + 1)
      refine ⟨by omega, by simp; omega, fun q => ?_⟩
      have := c q
      simp; omega
    · rw [if_neg h]
      simp
theorem fieldsB_len {l : List Pair} (h : fieldsB l = true) : l.length ≤ 16 := by
  simp only [fieldsB, Bool.and_eq_true, decide_eq_true_eq] at h
  omega
theorem fieldsB_up {l : List Pair} (h : fieldsB l = true) : fieldsUp none l = true := by
  simp only [fieldsB, Bool.and_eq_true] at h
  exact h.1
def fieldsGetM (l : List Pair) (t : ByteArray) : ByteArray × Bool :=
  if fieldsB l = true ∧ (atP t l 0).2 = true then ((rd_T80 l (atP t l 0).1).f1, true) else (⟨#[]⟩, false)
theorem spec_FieldsGet_ev (l : List Pair) (hl : l.length ≤ maxLen) (t : ByteArray) : Ev (fun k => spec_FieldsGet.f k l t) (fieldsGetM l t) := by
  unfold spec_FieldsGet.f fieldsGetM
  refine Ev.bind (l3At_ev l hl t) (Ev.bind (spec_FieldsOk_ev l hl) ?_)
  obtain ⟨h1, h2, h3⟩ := atP_bd t l 0
  cases hF : fieldsB l with
  | false => exact neg (by decide) (ret' (by simp))
  | true =>
    refine pos rfl ?_
    dsimp only
    cases hA : (atP t l 0).2 with
    | false => exact neg (by decide) (ret' (by simp))
    | true =>
      have := h3 hA
      exact pos rfl (pos (by omega) (pos (by omega) (ret' (by simp))))
theorem impl_FieldsGet_ev (l : List Pair) (hl : l.length ≤ maxLen) (t : ByteArray) : Ev (fun k => impl_FieldsGet.f k l t) (fieldsGetM l t) := by
  unfold impl_FieldsGet.f fieldsGetM
  refine Ev.bind (impl_FieldsOk_ev l hl) ?_
  obtain ⟨h1, h2, h3⟩ := atP_bd t l 0
  cases hF : fieldsB l with
  | false => exact neg (by decide) (ret' (by simp))
  | true =>
    refine pos rfl (Ev.bind (val rfl) ?_)
    rw [from_at t l none 0 (fieldsB_up hF)]
    cases hA : (atP t l 0).2 with
    | false =>
      simp only [Bool.false_eq_true, ↓reduceIte]
      exact pos (by omega) (ret' (by simp))
    | true =>
      have := h3 hA
      simp only [↓reduceIte]
      exact neg (by omega) (pos (by omega) (pos (by omega) (ret' (by simp))))
def fieldsDropM (l : List Pair) (t : ByteArray) : List Pair × Bool :=
  if fieldsB l = true then (if (atP t l 0).2 = true then (l.eraseIdx (atP t l 0).1, true) else (l, false)) else ([], false)
theorem fieldsDropM_len (l : List Pair) (t : ByteArray) : (fieldsDropM l t).1.length ≤ l.length := by
  unfold fieldsDropM
  split
  · split
    · exact List.length_eraseIdx_le _ _
    · exact Nat.le_refl _
  · simp
theorem copiedPairs_ev (l : List Pair) (hl : l.length ≤ 1048576) : Ev (fun _ => impl_copiedPairs.f l) l := by
  unfold impl_copiedPairs.f
  refine Ev.bind (ret _) (pos ?_ (ret' rfl))
  simp; omega
theorem spec_FieldsDrop_ev (l : List Pair) (hl : l.length ≤ maxLen) (t : ByteArray) : Ev (fun k => spec_FieldsDrop.f k l t) (fieldsDropM l t) := by
  unfold spec_FieldsDrop.f fieldsDropM
  refine Ev.bind (spec_FieldsOk_ev l hl) ?_
  obtain ⟨h1, h2, h3⟩ := atP_bd t l 0
  cases hF : fieldsB l with
  | false => exact neg (by decide) (ret' (by simp))
  | true =>
    have h16 := fieldsB_len hF
    refine pos rfl (Ev.bind (l3At_ev l hl t) ?_)
    dsimp only
    cases hA : (atP t l 0).2 with
    | false =>
      simp only [Bool.false_eq_true, ↓reduceIte]
      refine Ev.bind (ret _) (pos (by simp; omega) (ret' (by simp)))
    | true =>
      have := h3 hA
      generalize (atP t l 0).1 = n at h2 this
      rw [wrap_id (by omega) (by omega)]
      simp only [↓reduceIte]
      refine (Ev.bind (ret _) (pos (by omega) (pos (by omega) (Ev.bind (ret _) ?_))))
      refine pos (by simp; omega) (Ev.bind (ret _) (pos (by omega) (pos (by omega) (Ev.bind (ret _) ?_))))
      refine pos (by simp; omega) (ret' ?_)
      rw [Int.toNat_natCast, show ((n : Int) + 1).toNat = n + 1 by omega, List.nil_append, List.eraseIdx_eq_take_drop_succ]
theorem impl_FieldsDrop_ev (l : List Pair) (hl : l.length ≤ maxLen) (t : ByteArray) : Ev (fun k => impl_FieldsDrop.f k l t) (fieldsDropM l t) := by
  unfold impl_FieldsDrop.f fieldsDropM
  refine Ev.bind (impl_FieldsOk_ev l hl) ?_
  obtain ⟨h1, h2, h3⟩ := atP_bd t l 0
  cases hF : fieldsB l with
  | false => exact neg (by decide) (ret' (by simp))
  | true =>
    have h16 := fieldsB_len hF
    refine pos rfl (Ev.bind (copiedPairs_ev l (by omega)) (Ev.bind (val rfl) ?_))
    rw [from_at t l none 0 (fieldsB_up hF)]
    cases hA : (atP t l 0).2 with
    | false =>
      simp only [Bool.false_eq_true, ↓reduceIte]
      exact pos (by omega) (ret' rfl)
    | true =>
      have := h3 hA
      generalize (atP t l 0).1 = n at h2 this
      simp only [↓reduceIte]
      have hD : slices_Delete_impl_Pair_impl_Pair.f l (n : Int) (wrap64 ((n : Int) + 1)) = some (l.eraseIdx n) := by
        unfold slices_Delete_impl_Pair_impl_Pair.f
        rw [if_pos ⟨by omega, by omega, by rw [wrap_id (by omega) (by omega)]⟩, Int.toNat_natCast]
      have hle := List.length_eraseIdx_le l n
      refine neg (by omega) ?_
      refine Ev.bind (val hD) ?_
      exact Ev.bind (copiedPairs_ev _ (by omega)) (ret' rfl)
end Go.Proofs.Ytcdiokflmambiaa.Q
