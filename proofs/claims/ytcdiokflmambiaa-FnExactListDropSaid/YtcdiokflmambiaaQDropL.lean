import Derived.Test.YtcdiokflmambiaaPx1
import Derived.Test.YtcdiokflmambiaaQPop
import Derived.Test.YtcdiokflmambiaaQNum
/- Plain lemmas: a list turned round, on both sides; ListDrop on both sides. -/
namespace Go.Proofs.Ytcdiokflmambiaa.Q
open Go.RowKit Go.Proofs.YtcdiokflmambiaaW.PrintWords Go.Proofs.YtcdiokflmambiaaW.PrintLast Go.Proofs.Ytcdiokflmambiaa.P

theorem toList_iff0 {a b : ByteArray} : a.toList = b.toList ↔ a = b := ⟨toList_inj, fun h => by rw [h]⟩
theorem l2Turn_l0 (l : List ByteArray) (hl : l.length ≤ 1048576) (d : Nat) : ∀ (x : List ByteArray), d ≤ l.length → x.length + d = l.length → Ev (fun k => spec_l2Turn.l0 k l x ((d : Int) - 1)) (x ++ (l.take d).reverse) := by
  induction d with
  | zero =>
    intro x hd hx
    exact Ev.step (g := fun k => spec_l2Turn.l0 k _ _ _) (fun k => by rw [spec_l2Turn.l0]) (neg (by omega) (ret' (by simp)))
  | succ d ih =>
    intro x hd hx
    have hlt : d < l.length := by omega
    refine Ev.step (g := fun k => spec_l2Turn.l0 k _ _ _) (fun k => by rw [spec_l2Turn.l0]) (pos (by omega) (pos (by omega) (pos (by omega) (pos (by omega) ?_))))
    rw [show ((d + 1 : Nat) : Int) - 1 = (d : Int) by omega, rdOf_lt _ _ _ hlt, wrap_id (by omega) (by omega)]
    refine of_eq (ih (x ++ [l[d]]) (by omega) (by simp; omega)) ?_
    rw [List.take_succ_eq_append_getElem hlt, List.reverse_append, List.reverse_singleton, List.append_assoc]
theorem l2Turn_ev (l : List ByteArray) (hl : l.length ≤ 1048576) : Ev (fun k => spec_l2Turn.f k l) l.reverse := by
  unfold spec_l2Turn.f
  rw [wrap_id (by omega) (by omega)]
  exact of_eq (l2Turn_l0 l hl l.length [] (Nat.le_refl _) (by simp)) (by simp)
theorem rev_get (x : List ByteArray) (j : Nat) (h : j < x.reverse.length) : x.reverse[j] = x[x.length - 1 - j]'(by simp at h; omega) := by simp
theorem Reverse_l0 (l : List ByteArray) (hl : l.length ≤ 1048576) (d : Nat) : ∀ (i : Nat) (x : List ByteArray), l.length ≤ 2 * i + d → 2 * i ≤ l.length + 1 → x.length = l.length →
    (∀ (j : Nat) (hx : j < x.length) (hj : j < l.length), x[j] = if j < i ∨ l.length ≤ j + i then l[l.length - 1 - j]'(by omega) else l[j]) →
    Ev (fun k => slices_Reverse_string_string.l0 k x (i : Int) ((l.length : Int) - 1 - i)) l.reverse := by
  induction d with
  | zero =>
    intro i x h1 h2 hx hg
    refine Ev.step (g := fun k => slices_Reverse_string_string.l0 k _ _ _) (fun k => by rw [slices_Reverse_string_string.l0]) (neg (by omega) (ret' ?_))
    refine List.ext_getElem (by simp [hx]) (fun j hj hj' => ?_)
    rw [hg j hj (by omega), rev_get]
    by_cases h : j < i ∨ l.length ≤ j + i
    · rw [if_pos h]
    · omega
  | succ d ih =>
    intro i x h1 h2 hx hg
    by_cases hlt : (i : Int) < (l.length : Int) - 1 - i
    · have hi : i < x.length := by omega
      have hi' : l.length - 1 - i < x.length := by omega
      refine Ev.step (g := fun k => slices_Reverse_string_string.l0 k _ _ _) (fun k => by rw [slices_Reverse_string_string.l0]) (pos hlt (pos (by omega) (pos (by omega) (pos (by omega) (pos (by omega) ?_)))))
      have e1 : (l.length : Int) - 1 - (i : Int) = ((l.length - 1 - i : Nat) : Int) := by omega
      rw [e1, rdOf_lt _ _ _ hi, rdOf_lt _ _ _ hi', wrap_id (x := (i : Int) + 1) (by omega) (by omega), wrap_id (x := ((l.length - 1 - i : Nat) : Int) - 1) (by omega) (by omega), Int.toNat_natCast, Int.toNat_natCast]
      have := ih (i + 1) ((x.set i x[l.length - 1 - i]).set (l.length - 1 - i) x[i]) (by omega) (by omega) (by simp [hx]) (fun j hjx hj => by
        rw [List.getElem_set, List.getElem_set]
        have a1 := hg i hi (by omega)
        have a2 := hg (l.length - 1 - i) hi' (by omega)
        rw [if_neg (by omega)] at a1 a2
        by_cases c1 : l.length - 1 - i = j
        · subst c1
          rw [if_pos rfl, if_pos (by omega), a1]
          congr 1
          omega
        · rw [if_neg c1]
          by_cases c2 : i = j
          · subst c2
            rw [if_pos rfl, if_pos (by omega), a2]
          · rw [if_neg c2, hg j (by omega) hj]
            by_cases c3 : j < i ∨ l.length ≤ j + i
            · rw [if_pos c3, if_pos (by omega)]
            · rw [if_neg c3, if_neg (by omega)])
      rw [show ((l.length - 1 - i : Nat) : Int) - 1 = (l.length : Int) - 1 - ((i + 1 : Nat) : Int) by omega]
      exact this
    · refine Ev.step (g := fun k => slices_Reverse_string_string.l0 k _ _ _) (fun k => by rw [slices_Reverse_string_string.l0]) (neg hlt (ret' ?_))
      refine List.ext_getElem (by simp [hx]) (fun j hj hj' => ?_)
      rw [hg j hj (by omega), rev_get]
      by_cases h : j < i ∨ l.length ≤ j + i
      · rw [if_pos h]
      · rw [if_neg h]
        congr 1
        omega
theorem Reverse_ev (l : List ByteArray) (hl : l.length ≤ 1048576) : Ev (fun k => slices_Reverse_string_string.f k l) l.reverse := by
  unfold slices_Reverse_string_string.f
  rw [wrap_id (by omega) (by omega)]
  have := Reverse_l0 l hl l.length 0 l (by omega) (by omega) rfl (fun j hx hj => by rw [if_neg (by omega)])
  rw [show (l.length : Int) - 1 - ((0 : Nat) : Int) = (l.length : Int) - 1 by omega] at this
  exact this
/-- What is left, and how many are gone, from a first number of gone on. -/
def dropR (c m : Int) (t : ByteArray) : List ByteArray → Int → List ByteArray × Int
  | [], g => ([], g)
  | x :: r, g => if x = t ∧ (c = 0 ∨ g < m) then dropR c m t r (g + 1) else (x :: (dropR c m t r g).1, (dropR c m t r g).2)
def absI (c : Int) : Int := if c < 0 then -c else c
def listDropM (l : List ByteArray) (c : Int) (t : ByteArray) : List ByteArray × Int :=
  if textsB l 16 = true ∧ placeB c = true then (if c < 0 then ((dropR c (absI c) t l.reverse 0).1.reverse, (dropR c (absI c) t l.reverse 0).2) else dropR c (absI c) t l 0) else ([], 0)
theorem dropR_len (c m : Int) (t : ByteArray) (l : List ByteArray) : ∀ g, (dropR c m t l g).1.length ≤ l.length := by
  induction l with
  | nil => intro g; simp [dropR]
  | cons x r ih =>
    intro g
    rw [dropR]
    split
    · have := ih (g + 1); simp; omega
    · have := ih g; simp; omega
theorem listDropM_len (l : List ByteArray) (c : Int) (t : ByteArray) : (listDropM l c t).1.length ≤ l.length := by
  unfold listDropM
  split
  · split
    · have := dropR_len c (absI c) t l.reverse 0; simp at this; simpa using this
    · exact dropR_len _ _ _ _ _
  · simp
theorem dropR_pos {c m : Int} {t x : ByteArray} {r : List ByteArray} {g : Int} (h : x = t ∧ (c = 0 ∨ g < m)) : dropR c m t (x :: r) g = dropR c m t r (g + 1) := by rw [dropR, if_pos h]
theorem dropR_neg {c m : Int} {t x : ByteArray} {r : List ByteArray} {g : Int} (h : ¬ (x = t ∧ (c = 0 ∨ g < m))) : dropR c m t (x :: r) g = (x :: (dropR c m t r g).1, (dropR c m t r g).2) := by rw [dropR, if_neg h]
def turnP (c : Int) (q : List ByteArray × Int) : List ByteArray × Int := if c < 0 then (q.1.reverse, q.2) else q
theorem spec_ListDrop_l0 (c : Int) (t : ByteArray) (l : List ByteArray) (m : Int) (hl : l.length ≤ 1048576) (d : Nat) : ∀ (i g : Nat) (x : List ByteArray), i + d = l.length → x.length ≤ i → g ≤ i →
    Ev (fun k => spec_ListDrop.l0 k c t l m x (g : Int) (i : Int)) (turnP c (x ++ (dropR c m t (l.drop i) g).1, (dropR c m t (l.drop i) g).2)) := by
  induction d with
  | zero =>
    intro i g x hi hx hg
    refine Ev.step (g := fun k => spec_ListDrop.l0 k _ _ _ _ _ _ _) (fun k => by rw [spec_ListDrop.l0]) (neg (by omega) ?_)
    rw [List.drop_of_length_le (by omega)]
    unfold turnP
    simp only [dropR, List.append_nil]
    refine both (fun h => ?_) (fun h => ?_)
    · rw [if_pos h]
      exact Ev.bind (l2Turn_ev x (by omega)) (ret' rfl)
    · rw [if_neg h]
      exact ret _
  | succ d ih =>
    intro i g x hi hx hg
    have hlt : i < l.length := by omega
    refine Ev.step (g := fun k => spec_ListDrop.l0 k _ _ _ _ _ _ _) (fun k => by rw [spec_ListDrop.l0]) (pos (by omega) (pos (by omega) ?_))
    try refine pos (by omega) ?_
    rw [rdOf_lt _ _ _ hlt, List.drop_eq_getElem_cons hlt, wrap_id (x := (i : Int) + 1) (by omega) (by omega), wrap_id (x := (g : Int) + 1) (by omega) (by omega)]
    have ih1 := ih (i + 1) (g + 1) x (by omega) (by omega) (by omega)
    have ih0 := ih (i + 1) g (x ++ [l[i]]) (by omega) (by simp; omega) (by omega)
    rw [show ((g + 1 : Nat) : Int) = (g : Int) + 1 by omega] at ih1
    refine both (fun h => ?_) (fun h => ?_)
    · have h' := toList_iff0.1 h
      refine both (fun h0 => ?_) (fun h0 => both (fun h2 => ?_) (fun h2 => ?_))
      · rw [dropR_pos ⟨h', .inl h0⟩]; exact ih1
      · rw [dropR_pos ⟨h', .inr h2⟩]; exact ih1
      · rw [dropR_neg (fun q => by rcases q.2 with q | q; exact h0 q; exact h2 q)]
        exact pos (by omega) (of_eq ih0 (by simp))
    · rw [dropR_neg (fun q => h (toList_iff0.2 q.1))]
      exact pos (by omega) (of_eq ih0 (by simp))
theorem impl_ListDrop_l0 (c : Int) (t : ByteArray) (l : List ByteArray) (m : Int) (hl : l.length ≤ 1048576) (d : Nat) : ∀ (i g : Nat) (x : List ByteArray), i + d = l.length → x.length ≤ i → g ≤ i →
    Ev (fun k => impl_ListDrop.l0 k c t m (g : Int) x l (l.length : Int) (i : Int)) (turnP c (x ++ (dropR c m t (l.drop i) g).1, (dropR c m t (l.drop i) g).2)) := by
  induction d with
  | zero =>
    intro i g x hi hx hg
    refine Ev.step (g := fun k => impl_ListDrop.l0 k _ _ _ _ _ _ _ _) (fun k => by rw [impl_ListDrop.l0]) (neg (by omega) ?_)
    rw [List.drop_of_length_le (by omega)]
    unfold turnP
    simp only [dropR, List.append_nil]
    refine both (fun h => ?_) (fun h => ?_)
    · rw [if_pos h]
      exact Ev.bind (Reverse_ev x (by omega)) (ret' rfl)
    · rw [if_neg h]
      exact ret _
  | succ d ih =>
    intro i g x hi hx hg
    have hlt : i < l.length := by omega
    refine Ev.step (g := fun k => impl_ListDrop.l0 k _ _ _ _ _ _ _ _) (fun k => by rw [impl_ListDrop.l0]) (pos (by omega) (pos (by omega) ?_))
    try refine pos (by omega) ?_
    rw [rdOf_lt _ _ _ hlt, List.drop_eq_getElem_cons hlt, wrap_id (x := (i : Int) + 1) (by omega) (by omega), wrap_id (x := (g : Int) + 1) (by omega) (by omega)]
    have ih1 := ih (i + 1) (g + 1) x (by omega) (by omega) (by omega)
    have ih0 := ih (i + 1) g (x ++ [l[i]]) (by omega) (by simp; omega) (by omega)
    rw [show ((g + 1 : Nat) : Int) = (g : Int) + 1 by omega] at ih1
    refine both (fun h => ?_) (fun h => ?_)
    · have h' := toList_iff0.1 h
      refine both (fun h0 => ?_) (fun h0 => both (fun h2 => ?_) (fun h2 => ?_))
      · rw [dropR_pos ⟨h', .inl h0⟩]; exact ih1
      · rw [dropR_pos ⟨h', .inr h2⟩]; exact ih1
      · rw [dropR_neg (fun q => by rcases q.2 with q | q; exact h0 q; exact h2 q)]
        exact pos (by omega) (of_eq ih0 (by simp))
    · rw [dropR_neg (fun q => h (toList_iff0.2 q.1))]
      exact pos (by omega) (of_eq ih0 (by simp))
theorem spec_ListDrop_ev (l : List ByteArray) (hl : l.length ≤ 1048576) (c : Int) (t : ByteArray) : Ev (fun k => spec_ListDrop.f k l c t) (listDropM l c t) := by
  unfold spec_ListDrop.f listDropM
  refine Ev.bind (l2Texts_ev l (by unfold maxLen; omega)) ?_
  cases hT : textsB l 16 with
  | false =>
    refine neg (by decide) ?_
    refine Ev.step (g := fun k => spec_ListDrop.j0 k _ _ _ _) (fun k => by rw [spec_ListDrop.j0]) ?_
    exact pos rfl (ret' (by simp))
  | true =>
    refine pos rfl (Ev.bind (l2Place_ev c) ?_)
    cases hp : placeB c with
    | false =>
      refine Ev.step (g := fun k => spec_ListDrop.j0 k _ _ _ _) (fun k => by rw [spec_ListDrop.j0]) ?_
      exact pos rfl (ret' (by simp))
    | true =>
      have hb := place_bd hp
      refine Ev.step (g := fun k => spec_ListDrop.j0 k _ _ _ _) (fun k => by rw [spec_ListDrop.j0]) (neg (by decide) ?_)
      refine Ev.bind (l2Copy_ev l (by omega)) ?_
      rw [if_pos ⟨rfl, rfl⟩]
      refine both (fun h => ?_) (fun h => ?_)
      · refine Ev.bind (l2Turn_ev l hl) ?_
        rw [wrap_id (by omega) (by omega), if_pos h, show absI c = -c from if_pos h]
        refine Ev.step (g := fun k => spec_ListDrop.j1 k _ _ _ _) (fun k => by rw [spec_ListDrop.j1]) ?_
        refine of_eq (spec_ListDrop_l0 c t l.reverse (-c) (by simpa using hl) l.reverse.length 0 0 [] (by omega) (by simp) (by omega)) ?_
        unfold turnP
        rw [if_pos h]
        simp
      · rw [if_neg h, show absI c = c from if_neg h]
        refine Ev.step (g := fun k => spec_ListDrop.j1 k _ _ _ _) (fun k => by rw [spec_ListDrop.j1]) ?_
        refine of_eq (spec_ListDrop_l0 c t l c hl l.length 0 0 [] (by omega) (by simp) (by omega)) ?_
        unfold turnP
        rw [if_neg h]
        simp
theorem mx_abs (c : Int) (h : -1000000000 ≤ c ∧ c ≤ 1000000000) : mx c (wrap64 (-c)) = absI c := by
  rw [wrap_id (by omega) (by omega)]
  unfold mx absI
  by_cases h1 : c < -c
  · rw [if_pos h1, if_pos (by omega)]
  · rw [if_neg h1, if_neg (by omega)]
theorem impl_ListDrop_ev (l : List ByteArray) (hl : l.length ≤ 1048576) (c : Int) (t : ByteArray) : Ev (fun k => impl_ListDrop.f k l c t) (listDropM l c t) := by
  unfold impl_ListDrop.f listDropM
  refine Ev.bind (listOk_ev l (by unfold maxLen; omega)) ?_
  cases hT : textsB l 16 with
  | false =>
    refine neg (by decide) ?_
    refine Ev.step (g := fun k => impl_ListDrop.j0 k _ _ _ _) (fun k => by rw [impl_ListDrop.j0]) ?_
    exact pos rfl (ret' (by simp))
  | true =>
    refine pos rfl (Ev.bind (position_ev c) ?_)
    cases hp : placeB c with
    | false =>
      refine Ev.step (g := fun k => impl_ListDrop.j0 k _ _ _ _) (fun k => by rw [impl_ListDrop.j0]) ?_
      exact pos rfl (ret' (by simp))
    | true =>
      have hb := place_bd hp
      refine Ev.step (g := fun k => impl_ListDrop.j0 k _ _ _ _) (fun k => by rw [impl_ListDrop.j0]) (neg (by decide) ?_)
      refine Ev.bind (copied_ev l (by omega)) ?_
      rw [if_pos ⟨rfl, rfl⟩]
      refine both (fun h => ?_) (fun h => ?_)
      · refine Ev.bind (Reverse_ev l hl) ?_
        rw [if_pos h]
        refine Ev.step (g := fun k => impl_ListDrop.j1 k _ _ _) (fun k => by rw [impl_ListDrop.j1]) ?_
        rw [mx_abs c hb]
        refine of_eq (impl_ListDrop_l0 c t l.reverse (absI c) (by simpa using hl) l.reverse.length 0 0 [] (by omega) (by simp) (by omega)) ?_
        unfold turnP
        rw [if_pos h]
        simp
      · rw [if_neg h]
        refine Ev.step (g := fun k => impl_ListDrop.j1 k _ _ _) (fun k => by rw [impl_ListDrop.j1]) ?_
        rw [mx_abs c hb]
        refine of_eq (impl_ListDrop_l0 c t l (absI c) hl l.length 0 0 [] (by omega) (by simp) (by omega)) ?_
        unfold turnP
        rw [if_neg h]
        simp
end Go.Proofs.Ytcdiokflmambiaa.Q
