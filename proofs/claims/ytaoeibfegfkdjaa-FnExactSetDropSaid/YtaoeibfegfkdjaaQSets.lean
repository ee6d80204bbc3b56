import Derived.Test.YtaoeibfegfkdjaaPx1
import Derived.Test.YtaoeibfegfkdjaaQSetOk
import Derived.Test.YtaoeibfegfkdjaaQPop
/- Plain lemmas: what of a set is in another list, or is not, on both sides. -/
namespace Go.Proofs.Ytaoeibfegfkdjaa.Q
open Go.RowKit Go.Proofs.YtaoeibfegfkdjaaW.PrintWords Go.Proofs.YtaoeibfegfkdjaaW.PrintLast Go.Proofs.Ytaoeibfegfkdjaa.P

def hasB (l : List ByteArray) (s : ByteArray) : Bool := l.any (fun x => decide (x = s))
theorem toList_iff {a b : ByteArray} : a.toList = b.toList ↔ a = b := ⟨toList_inj, fun h => by rw [h]⟩
theorem l2Has_l0 (l : List ByteArray) (hl : l.length ≤ maxLen) (s : ByteArray) (d : Nat) : ∀ (i : Nat), i + d = l.length → Ev (fun k => spec_l2Has.l0 k l s (i : Int)) (hasB (l.drop i) s) := by
  unfold maxLen at hl
  induction d with
  | zero =>
    intro i hi
    refine Ev.step (g := fun k => spec_l2Has.l0 k _ _ _) (fun k => by rw [spec_l2Has.l0]) (neg (by omega) (ret' ?_))
    rw [List.drop_of_length_le (by omega)]
    rfl
  | succ d ih =>
    intro i hi
    have hlt : i < l.length := by omega
    refine Ev.step (g := fun k => spec_l2Has.l0 k _ _ _) (fun k => by rw [spec_l2Has.l0]) (pos (by omega) (pos (by omega) ?_))
    rw [rdOf_lt _ _ _ hlt, List.drop_eq_getElem_cons hlt, wrap_id (by omega) (by omega)]
    refine both (fun h => ret' ?_) (fun h => ?_)
    · simp [hasB, toList_iff.1 h]
    · have : l[i] ≠ s := fun e => h (by rw [e])
      refine of_eq (ih (i + 1) (by omega)) ?_
      show _ = (decide (l[i] = s) || hasB (l.drop (i + 1)) s)
      rw [decide_eq_false this, Bool.false_or]
theorem l2Has_ev (l : List ByteArray) (hl : l.length ≤ maxLen) (s : ByteArray) : Ev (fun k => spec_l2Has.f k l s) (hasB l s) := l2Has_l0 l hl s l.length 0 (by omega)
theorem Index_l0 (l : List ByteArray) (hl : l.length ≤ maxLen) (s : ByteArray) (d : Nat) : ∀ (i : Nat), i + d = l.length →
    ∃ r, Ev (fun k => slices_Index_string_string.l0 k l s (l.length : Int) (i : Int)) r ∧ decide (r ≥ 0) = hasB (l.drop i) s := by
  unfold maxLen at hl
  induction d with
  | zero =>
    intro i hi
    refine ⟨-1, Ev.step (g := fun k => slices_Index_string_string.l0 k _ _ _ _) (fun k => by rw [slices_Index_string_string.l0]) (neg (by omega) (ret _)), ?_⟩
    rw [List.drop_of_length_le (by omega)]
    rfl
  | succ d ih =>
    intro i hi
    have hlt : i < l.length := by omega
    by_cases h : l[i] = s
    · refine ⟨i, Ev.step (g := fun k => slices_Index_string_string.l0 k _ _ _ _) (fun k => by rw [slices_Index_string_string.l0]) (pos (by omega) (pos (by omega) (pos (by omega) ?_))), ?_⟩
      · rw [rdOf_lt _ _ _ hlt]
        exact pos (by rw [h]) (ret _)
      · rw [List.drop_eq_getElem_cons hlt]
        simp [hasB, h]
    · obtain ⟨r, hr, he⟩ := ih (i + 1) (by omega)
      refine ⟨r, Ev.step (g := fun k => slices_Index_string_string.l0 k _ _ _ _) (fun k => by rw [slices_Index_string_string.l0]) (pos (by omega) (pos (by omega) (pos (by omega) ?_))), ?_⟩
      · rw [rdOf_lt _ _ _ hlt, wrap_id (by omega) (by omega)]
        exact neg (fun e => h (toList_iff.1 e.symm)) hr
      · rw [List.drop_eq_getElem_cons hlt, he]
        show _ = (decide (l[i] = s) || hasB (l.drop (i + 1)) s)
        rw [decide_eq_false h, Bool.false_or]
theorem Contains_ev (l : List ByteArray) (hl : l.length ≤ maxLen) (s : ByteArray) : Ev (fun k => slices_Contains_string_string.f k l s) (hasB l s) := by
  obtain ⟨r, hr, he⟩ := Index_l0 l hl s l.length 0 (by omega)
  unfold slices_Contains_string_string.f
  exact Ev.bind hr (ret' he)
/-- Of a list what is in another one, or is not. -/
def chosenM (l o : List ByteArray) (b : Bool) : List ByteArray := l.filter (fun s => hasB o s == b)
theorem chosenM_cons (a : ByteArray) (l o : List ByteArray) (b : Bool) : chosenM (a :: l) o b = if (hasB o a == b) = true then a :: chosenM l o b else chosenM l o b := by simp [chosenM, List.filter_cons]
theorem chosen_l0 (l o : List ByteArray) (b : Bool) (hl : l.length ≤ 1048576) (ho : o.length ≤ maxLen) (d : Nat) : ∀ (i : Nat) (x : List ByteArray), i + d = l.length → x.length ≤ i →
    Ev (fun k => impl_chosen.l0 k o b x l (l.length : Int) (i : Int)) (x ++ chosenM (l.drop i) o b) := by
  induction d with
  | zero =>
    intro i x hi hx
    refine Ev.step (g := fun k => impl_chosen.l0 k _ _ _ _ _ _) (fun k => by rw [impl_chosen.l0]) (neg (by omega) (ret' ?_))
    rw [List.drop_of_length_le (by omega)]
    simp [chosenM]
  | succ d ih =>
    intro i x hi hx
    have hlt : i < l.length := by omega
    refine Ev.step (g := fun k => impl_chosen.l0 k _ _ _ _ _ _) (fun k => by rw [impl_chosen.l0]) (pos (by omega) (pos (by omega) (pos (by omega) ?_)))
    rw [rdOf_lt _ _ _ hlt, wrap_id (by omega) (by omega)]
    refine Ev.bind (Contains_ev o ho _) ?_
    rw [List.drop_eq_getElem_cons hlt]
    refine both (fun h => ?_) (fun h => ?_)
    · refine pos (by omega) (of_eq (ih (i + 1) _ (by omega) (by simp; omega)) ?_)
      rw [chosenM_cons, if_pos h, List.append_assoc, List.singleton_append]
    · refine of_eq (ih (i + 1) _ (by omega) (by omega)) ?_
      rw [chosenM_cons, if_neg h]
theorem chosen_ev (l o : List ByteArray) (b : Bool) (hl : l.length ≤ 1048576) (ho : o.length ≤ maxLen) : Ev (fun k => impl_chosen.f k l o b) (chosenM l o b) := by
  have := chosen_l0 l o b hl ho l.length 0 [] (by omega) (by simp)
  simpa [impl_chosen.f] using this
theorem chosenM_len (l o : List ByteArray) (b : Bool) : (chosenM l o b).length ≤ l.length := List.length_filter_le _ _
/-- In common, or alone. -/
def setBothM (l o : List ByteArray) (b : Bool) : List ByteArray := if setB l = true ∧ setB o = true then chosenM l o b else []
theorem setBothM_len (l o : List ByteArray) (b : Bool) : (setBothM l o b).length ≤ l.length := by
  unfold setBothM
  split
  · exact chosenM_len l o b
  · simp
theorem impl_SetBoth_ev (l o : List ByteArray) (hl : l.length ≤ 1048576) (ho : o.length ≤ 1048576) : Ev (fun k => impl_SetBoth.f k l o) (setBothM l o true) := by
  unfold impl_SetBoth.f setBothM
  refine Ev.bind (impl_SetOk_ev l (by unfold maxLen; omega)) ?_
  cases h1 : setB l with
  | false => exact neg (by decide) (ret' (by simp))
  | true =>
    refine pos rfl (Ev.bind (impl_SetOk_ev o (by unfold maxLen; omega)) ?_)
    cases h2 : setB o with
    | false => exact neg (by decide) (ret' (by simp))
    | true => exact pos rfl (Ev.bind (chosen_ev l o true hl (by unfold maxLen; omega)) (ret' (by simp)))
theorem impl_SetLess_ev (l o : List ByteArray) (hl : l.length ≤ 1048576) (ho : o.length ≤ 1048576) : Ev (fun k => impl_SetLess.f k l o) (setBothM l o false) := by
  unfold impl_SetLess.f setBothM
  refine Ev.bind (impl_SetOk_ev l (by unfold maxLen; omega)) ?_
  cases h1 : setB l with
  | false => exact neg (by decide) (ret' (by simp))
  | true =>
    refine pos rfl (Ev.bind (impl_SetOk_ev o (by unfold maxLen; omega)) ?_)
    cases h2 : setB o with
    | false => exact neg (by decide) (ret' (by simp))
    | true => exact pos rfl (Ev.bind (chosen_ev l o false hl (by unfold maxLen; omega)) (ret' (by simp)))
theorem spec_SetBoth_l0 (l o : List ByteArray) (hl : l.length ≤ 1048576) (ho : o.length ≤ 1048576) (d : Nat) : ∀ (i : Nat) (x : List ByteArray), i + d = l.length → x.length ≤ i →
    Ev (fun k => spec_SetBoth.l0 k l o x (i : Int)) (if setB l = true ∧ setB o = true then x ++ chosenM (l.drop i) o true else x) := by
  have hl' : l.length ≤ maxLen := by unfold maxLen; omega
  have ho' : o.length ≤ maxLen := by unfold maxLen; omega
  induction d with
  | zero =>
    intro i x hi hx
    refine Ev.step (g := fun k => spec_SetBoth.l0 k _ _ _ _) (fun k => by rw [spec_SetBoth.l0]) (neg (by omega) ?_)
    refine Ev.step (g := fun k => spec_SetBoth.j1 k _ _ _ _ _) (fun k => by rw [spec_SetBoth.j1]) (neg (by decide) (ret' ?_))
    rw [List.drop_of_length_le (by omega)]
    simp [chosenM]
  | succ d ih =>
    intro i x hi hx
    have hlt : i < l.length := by omega
    refine Ev.step (g := fun k => spec_SetBoth.l0 k _ _ _ _) (fun k => by rw [spec_SetBoth.l0]) (pos (by omega) (Ev.bind (spec_SetOk_ev l hl') ?_))
    cases h1 : setB l with
    | false =>
      refine neg (by decide) ?_
      exact Ev.step (g := fun k => spec_SetBoth.j1 k _ _ _ _ _) (f := fun _ => some x) (fun k => by rw [spec_SetBoth.j1]; rfl) (ret' (by simp))
    | true =>
      refine pos rfl (Ev.bind (spec_SetOk_ev o ho') ?_)
      cases h2 : setB o with
      | false => exact Ev.step (g := fun k => spec_SetBoth.j1 k _ _ _ _ _) (f := fun _ => some x) (fun k => by rw [spec_SetBoth.j1]; rfl) (ret' (by simp))
      | true =>
        refine Ev.step (g := fun k => spec_SetBoth.j1 k _ _ _ _ _) (fun k => by rw [spec_SetBoth.j1]) (pos rfl (pos (by omega) (pos (by omega) ?_)))
        rw [rdOf_lt _ _ _ hlt, wrap_id (by omega) (by omega), List.drop_eq_getElem_cons hlt]
        refine Ev.bind (l2Has_ev o ho' _) ?_
        have ih0 := ih (i + 1) x (by omega) (by omega)
        have ih1 := ih (i + 1) (x ++ [l[i]]) (by omega) (by simp; omega)
        rw [h1, h2] at ih0 ih1
        cases h : hasB o l[i] with
        | true =>
          refine pos rfl ?_
          first
            | exact pos (by omega) (of_eq ih1 (by rw [chosenM_cons, h]; simp))
            | exact of_eq ih0 (by rw [chosenM_cons, h]; simp)
        | false =>
          refine neg (by decide) ?_
          first
            | exact pos (by omega) (of_eq ih1 (by rw [chosenM_cons, h]; simp))
            | exact of_eq ih0 (by rw [chosenM_cons, h]; simp)
theorem spec_SetBoth_ev (l o : List ByteArray) (hl : l.length ≤ 1048576) (ho : o.length ≤ 1048576) : Ev (fun k => spec_SetBoth.f k l o) (setBothM l o true) := by
  have := spec_SetBoth_l0 l o hl ho l.length 0 [] (by omega) (by simp)
  simpa [spec_SetBoth.f, setBothM] using this
theorem spec_SetLess_l0 (l o : List ByteArray) (hl : l.length ≤ 1048576) (ho : o.length ≤ 1048576) (d : Nat) : ∀ (i : Nat) (x : List ByteArray), i + d = l.length → x.length ≤ i →
    Ev (fun k => spec_SetLess.l0 k l o x (i : Int)) (if setB l = true ∧ setB o = true then x ++ chosenM (l.drop i) o false else x) := by
  have hl' : l.length ≤ maxLen := by unfold maxLen; omega
  have ho' : o.length ≤ maxLen := by unfold maxLen; omega
  induction d with
  | zero =>
    intro i x hi hx
    refine Ev.step (g := fun k => spec_SetLess.l0 k _ _ _ _) (fun k => by rw [spec_SetLess.l0]) (neg (by omega) ?_)
    refine Ev.step (g := fun k => spec_SetLess.j1 k _ _ _ _ _) (fun k => by rw [spec_SetLess.j1]) (neg (by decide) (ret' ?_))
    rw [List.drop_of_length_le (by omega)]
    simp [chosenM]
  | succ d ih =>
    intro i x hi hx
    have hlt : i < l.length := by omega
    refine Ev.step (g := fun k => spec_SetLess.l0 k _ _ _ _) (fun k => by rw [spec_SetLess.l0]) (pos (by omega) (Ev.bind (spec_SetOk_ev l hl') ?_))
    cases h1 : setB l with
    | false =>
      refine neg (by decide) ?_
      exact Ev.step (g := fun k => spec_SetLess.j1 k _ _ _ _ _) (f := fun _ => some x) (fun k => by rw [spec_SetLess.j1]; rfl) (ret' (by simp))
    | true =>
      refine pos rfl (Ev.bind (spec_SetOk_ev o ho') ?_)
      cases h2 : setB o with
      | false => exact Ev.step (g := fun k => spec_SetLess.j1 k _ _ _ _ _) (f := fun _ => some x) (fun k => by rw [spec_SetLess.j1]; rfl) (ret' (by simp))
      | true =>
        refine Ev.step (g := fun k => spec_SetLess.j1 k _ _ _ _ _) (fun k => by rw [spec_SetLess.j1]) (pos rfl (pos (by omega) (pos (by omega) ?_)))
        rw [rdOf_lt _ _ _ hlt, wrap_id (by omega) (by omega), List.drop_eq_getElem_cons hlt]
        refine Ev.bind (l2Has_ev o ho' _) ?_
        have ih0 := ih (i + 1) x (by omega) (by omega)
        have ih1 := ih (i + 1) (x ++ [l[i]]) (by omega) (by simp; omega)
        rw [h1, h2] at ih0 ih1
        cases h : hasB o l[i] with
        | true =>
          refine pos rfl ?_
          first
            | exact pos (by omega) (of_eq ih1 (by rw [chosenM_cons, h]; simp))
            | exact of_eq ih0 (by rw [chosenM_cons, h]; simp)
        | false =>
          refine neg (by decide) ?_
          first
            | exact pos (by omega) (of_eq ih1 (by rw [chosenM_cons, h]; simp))
            | exact of_eq ih0 (by rw [chosenM_cons, h]; simp)
theorem spec_SetLess_ev (l o : List ByteArray) (hl : l.length ≤ 1048576) (ho : o.length ≤ 1048576) : Ev (fun k => spec_SetLess.f k l o) (setBothM l o false) := by
  have := spec_SetLess_l0 l o hl ho l.length 0 [] (by omega) (by simp)
  simpa [spec_SetLess.f, setBothM] using this
/-- What is left of a set behind a drop, and how many are gone. -/
def setDropM (l o : List ByteArray) : List ByteArray × Int := if setB l = true then (chosenM l o false, (l.length : Int) - (chosenM l o false).length) else ([], 0)
theorem setDropM_len (l o : List ByteArray) : (setDropM l o).1.length ≤ l.length := by
  unfold setDropM
  split
  · exact chosenM_len l o false
  · simp
theorem impl_SetDrop_ev (l o : List ByteArray) (hl : l.length ≤ 1048576) (ho : o.length ≤ 1048576) : Ev (fun k => impl_SetDrop.f k l o) (setDropM l o) := by
  unfold impl_SetDrop.f setDropM
  refine Ev.bind (impl_SetOk_ev l (by unfold maxLen; omega)) ?_
  have hc := chosenM_len l o false
  cases h1 : setB l with
  | false => exact neg (by decide) (ret' (by simp))
  | true => exact pos rfl (Ev.bind (chosen_ev l o false hl (by unfold maxLen; omega)) (ret' (by rw [if_pos rfl, wrap_id (by omega) (by omega)])))
theorem spec_SetDrop_l0 (l o : List ByteArray) (hl : l.length ≤ 1048576) (ho : o.length ≤ 1048576) (d : Nat) : ∀ (i : Nat) (x : List ByteArray), i + d = l.length → x.length ≤ i →
    Ev (fun k => spec_SetDrop.l0 k l o x (i : Int)) (x ++ chosenM (l.drop i) o false, (l.length : Int) - (x ++ chosenM (l.drop i) o false).length) := by
  have ho' : o.length ≤ maxLen := by unfold maxLen; omega
  induction d with
  | zero =>
    intro i x hi hx
    refine Ev.step (g := fun k => spec_SetDrop.l0 k _ _ _ _) (fun k => by rw [spec_SetDrop.l0]) (neg (by omega) (ret' ?_))
    rw [List.drop_of_length_le (by omega), wrap_id (by omega) (by omega)]
    simp [chosenM]
  | succ d ih =>
    intro i x hi hx
    have hlt : i < l.length := by omega
    refine Ev.step (g := fun k => spec_SetDrop.l0 k _ _ _ _) (fun k => by rw [spec_SetDrop.l0]) (pos (by omega) (pos (by omega) ?_))
    rw [rdOf_lt _ _ _ hlt, wrap_id (x := (i : Int) + 1) (by omega) (by omega), List.drop_eq_getElem_cons hlt]
    refine Ev.bind (l2Has_ev o ho' _) ?_
    cases h : hasB o l[i] with
    | true => exact pos rfl (of_eq (ih (i + 1) x (by omega) (by omega)) (by rw [chosenM_cons, h]; simp))
    | false => exact neg (by decide) (pos (by omega) (of_eq (ih (i + 1) (x ++ [l[i]]) (by omega) (by simp; omega)) (by rw [chosenM_cons, h]; simp)))
theorem spec_SetDrop_ev (l o : List ByteArray) (hl : l.length ≤ 1048576) (ho : o.length ≤ 1048576) : Ev (fun k => spec_SetDrop.f k l o) (setDropM l o) := by
  unfold spec_SetDrop.f setDropM
  refine Ev.bind (ret _) (Ev.bind (spec_SetOk_ev l (by unfold maxLen; omega)) ?_)
  cases h1 : setB l with
  | false => exact neg (by decide) (ret' (by simp))
  | true =>
    have := spec_SetDrop_l0 l o hl ho l.length 0 [] (by omega) (by simp)
    refine pos rfl (of_eq this (by simp))
end Go.Proofs.Ytaoeibfegfkdjaa.Q
