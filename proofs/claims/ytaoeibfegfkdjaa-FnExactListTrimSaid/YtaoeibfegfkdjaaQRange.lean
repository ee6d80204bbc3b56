import Derived.Test.YtaoeibfegfkdjaaPx1
import Derived.Test.YtaoeibfegfkdjaaQPop
import Derived.Test.YtaoeibfegfkdjaaQNum
/- Plain lemmas: a stretch of a list by two places, on both sides. -/
namespace Go.Proofs.Ytaoeibfegfkdjaa.Q
open Go.RowKit Go.Proofs.YtaoeibfegfkdjaaW.PrintWords Go.Proofs.YtaoeibfegfkdjaaW.PrintLast Go.Proofs.YtaoeibfegfkdjaaW.PrintMore Go.Proofs.Ytaoeibfegfkdjaa.P

/-- From one place to ahead of another one, in a list of n. -/
def endsM (n : Nat) (a b : Int) : Int × Int :=
  let a1 := if a < 0 then a + n else a
  let b1 := if b < 0 then b + n else b
  let a2 := if a1 < 0 then 0 else a1
  let b2 := if b1 ≥ n then (n : Int) - 1 else b1
  if a2 > b2 then (0, 0) else (a2, b2 + 1)
theorem endsM_bd (n : Nat) (a b : Int) : 0 ≤ (endsM n a b).1 ∧ (endsM n a b).1 ≤ (endsM n a b).2 ∧ (endsM n a b).2 ≤ n := by
  unfold endsM
  dsimp only
  split <;> (try dsimp only) <;> (repeat' split) <;> omega
theorem l2Ends_ev (n : Nat) (hn : n ≤ 1048576) (a b : Int) (ha : placeB a = true) (hb : placeB b = true) : Ev (fun k => spec_l2Ends.f k (n : Int) a b) (endsM n a b) := by
  have ha := place_bd ha
  have hb := place_bd hb
  have e1 : wrap64 (a + (n : Int)) = a + n := wrap_id (by omega) (by omega)
  have e2 : wrap64 (b + (n : Int)) = b + n := wrap_id (by omega) (by omega)
  have e3 : wrap64 ((n : Int) - 1) = n - 1 := wrap_id (by omega) (by omega)
  have j2 : ∀ x1 x2 : Int, 0 ≤ x1 → -1000000000 ≤ x2 → x2 ≤ 1001048576 → Ev (fun k => spec_l2Ends.j2 k (n : Int) x1 x2) (if x1 > (if x2 ≥ n then (n : Int) - 1 else x2) then ((0, 0) : Int × Int) else (x1, (if x2 ≥ n then (n : Int) - 1 else x2) + 1)) := by
    intro x1 x2 h1 h2 h3
    refine Ev.step (g := fun k => spec_l2Ends.j2 k _ _ _) (fun k => by rw [spec_l2Ends.j2]) ?_
    rw [e3, wrap_id (x := (n : Int) - 1 + 1) (by omega) (by omega), wrap_id (x := x2 + 1) (by omega) (by omega)]
    refine both (fun h => ?_) (fun h => ?_)
    · rw [if_pos h]
      exact both (fun h' => ret' (if_pos h').symm) (fun h' => ret' (if_neg h').symm)
    · rw [if_neg h]
      exact both (fun h' => ret' (if_pos h').symm) (fun h' => ret' (if_neg h').symm)
  have j1 : ∀ x1 x2 : Int, -1000000000 ≤ x2 → x2 ≤ 1001048576 → Ev (fun k => spec_l2Ends.j1 k (n : Int) x1 x2) (if (if x1 < 0 then 0 else x1) > (if x2 ≥ n then (n : Int) - 1 else x2) then ((0, 0) : Int × Int) else ((if x1 < 0 then 0 else x1), (if x2 ≥ n then (n : Int) - 1 else x2) + 1)) := by
    intro x1 x2 h2 h3
    refine Ev.step (g := fun k => spec_l2Ends.j1 k _ _ _) (fun k => by rw [spec_l2Ends.j1]) ?_
    refine both (fun h => ?_) (fun h => ?_)
    · rw [if_pos h]; exact j2 0 x2 (by omega) h2 h3
    · rw [if_neg h]; exact j2 x1 x2 (by omega) h2 h3
  have j0 : ∀ x1 : Int, Ev (fun k => spec_l2Ends.j0 k (n : Int) x1 b) (if (if x1 < 0 then 0 else x1) > (if (if b < 0 then b + n else b) ≥ n then (n : Int) - 1 else (if b < 0 then b + n else b)) then ((0, 0) : Int × Int) else ((if x1 < 0 then 0 else x1), (if (if b < 0 then b + n else b) ≥ n then (n : Int) - 1 else (if b < 0 then b + n else b)) + 1)) := by
    intro x1
    refine Ev.step (g := fun k => spec_l2Ends.j0 k _ _ _) (fun k => by rw [spec_l2Ends.j0]) ?_
    rw [e2]
    refine both (fun h => ?_) (fun h => ?_)
    · rw [if_pos h]; exact j1 x1 _ (by omega) (by omega)
    · rw [if_neg h]; exact j1 x1 _ (by omega) (by omega)
  unfold spec_l2Ends.f endsM
  rw [e1]
  refine both (fun h => ?_) (fun h => ?_)
  · rw [if_pos h]; exact j0 _
  · rw [if_neg h]; exact j0 _
def spanM (n : Nat) (a b : Int) : Int × Int := if placeB a = true ∧ placeB b = true then endsM n a b else (0, 0)
theorem spanM_bd (n : Nat) (a b : Int) : 0 ≤ (spanM n a b).1 ∧ (spanM n a b).1 ≤ (spanM n a b).2 ∧ (spanM n a b).2 ≤ n := by
  unfold spanM
  split
  · exact endsM_bd n a b
  · exact ⟨Int.le_refl _, Int.le_refl _, by show (0 : Int) ≤ n; omega⟩
theorem span_ev (n : Nat) (hn : n ≤ 1048576) (a b : Int) : Ev (fun k => impl_span.f k (n : Int) a b) (spanM n a b) := by
  unfold impl_span.f spanM
  refine Ev.bind (position_ev a) ?_
  cases hp : placeB a with
  | false =>
    refine neg (by decide) ?_
    refine Ev.step (g := fun k => impl_span.j0 k _ _ _ _) (fun k => by rw [impl_span.j0]) ?_
    refine pos rfl (ret' ?_)
    rw [if_neg (by simp)]
  | true =>
    refine pos rfl (Ev.bind (position_ev b) ?_)
    cases hq : placeB b with
    | false =>
      refine Ev.step (g := fun k => impl_span.j0 k _ _ _ _) (fun k => by rw [impl_span.j0]) ?_
      refine pos rfl (ret' ?_)
      rw [if_neg (by simp)]
    | true =>
      have ha := place_bd hp
      have hb := place_bd hq
      have e1 : wrap64 (a + (n : Int)) = a + n := wrap_id (by omega) (by omega)
      have e2 : wrap64 (b + (n : Int)) = b + n := wrap_id (by omega) (by omega)
      have e3 : wrap64 ((n : Int) - 1) = n - 1 := wrap_id (by omega) (by omega)
      rw [if_pos ⟨rfl, rfl⟩]
      have last : ∀ x1 x2 : Int, -1000000000 ≤ x2 → x2 ≤ 1001048576 → Ev (fun _ => if (mx x1 0) > (mn x2 ((n : Int) - 1)) then (some ((0, 0) : Int × Int)) else (some (mx x1 0, wrap64 ((mn x2 ((n : Int) - 1)) + 1)))) (if (if x1 < 0 then 0 else x1) > (if x2 ≥ n then (n : Int) - 1 else x2) then ((0, 0) : Int × Int) else ((if x1 < 0 then 0 else x1), (if x2 ≥ n then (n : Int) - 1 else x2) + 1)) := by
        intro x1 x2 h2 h3
        have m1 : mx x1 0 = if x1 < 0 then 0 else x1 := by unfold mx; rfl
        have m2 : mn x2 ((n : Int) - 1) = if x2 ≥ n then (n : Int) - 1 else x2 := by
          unfold mn
          by_cases h : x2 ≥ n
          · rw [if_pos h, if_pos (by omega)]
          · rw [if_neg h, if_neg (by omega)]
        have m3 : wrap64 ((if x2 ≥ n then (n : Int) - 1 else x2) + 1) = (if x2 ≥ n then (n : Int) - 1 else x2) + 1 := by
          split
          · exact wrap_id (by omega) (by omega)
          · exact wrap_id (by omega) (by omega)
        rw [m1, m2, m3]
        exact both (fun h' => ret' (if_pos h').symm) (fun h' => ret' (if_neg h').symm)
      have j1 : ∀ x1 : Int, Ev (fun k => impl_span.j1 k (n : Int) x1 b) (if (if x1 < 0 then 0 else x1) > (if (if b < 0 then b + n else b) ≥ n then (n : Int) - 1 else (if b < 0 then b + n else b)) then ((0, 0) : Int × Int) else ((if x1 < 0 then 0 else x1), (if (if b < 0 then b + n else b) ≥ n then (n : Int) - 1 else (if b < 0 then b + n else b)) + 1)) := by
        intro x1
        refine Ev.step (g := fun k => impl_span.j1 k _ _ _) (fun k => by rw [impl_span.j1]) ?_
        rw [e2, e3]
        refine both (fun h => ?_) (fun h => ?_)
        · rw [if_pos h]; exact last x1 _ (by omega) (by omega)
        · rw [if_neg h]; exact last x1 _ (by omega) (by omega)
      refine Ev.step (g := fun k => impl_span.j0 k _ _ _ _) (fun k => by rw [impl_span.j0]) ?_
      refine neg (by decide) ?_
      unfold endsM
      rw [e1]
      refine both (fun h => ?_) (fun h => ?_)
      · rw [if_pos h]; exact j1 _
      · rw [if_neg h]; exact j1 _
def rangeM (l : List ByteArray) (a b : Int) : List ByteArray :=
  if textsB l 16 = true then (l.take (spanM l.length a b).2.toNat).drop (spanM l.length a b).1.toNat else []
theorem rangeM_len (l : List ByteArray) (a b : Int) : (rangeM l a b).length ≤ l.length := by
  unfold rangeM
  split
  · simp [List.length_take]; omega
  · simp
theorem impl_ListRange_ev (l : List ByteArray) (hl : l.length ≤ maxLen) (a b : Int) : Ev (fun k => impl_ListRange.f k l a b) (rangeM l a b) := by
  unfold impl_ListRange.f rangeM
  refine Ev.bind (listOk_ev l hl) ?_
  cases hT : textsB l 16 with
  | false => exact neg (by decide) (ret' rfl)
  | true =>
    have h16 := (textsB_le hT).1
    rw [if_pos rfl]
    refine pos rfl (Ev.bind (span_ev l.length (by omega) a b) ?_)
    obtain ⟨b1, b2, b3⟩ := spanM_bd l.length a b
    exact pos b1 (pos b2 (pos b3 (Ev.bind (copied_ev _ (by simp [List.length_take]; omega)) (ret _))))
theorem spec_ListRange_ev (l : List ByteArray) (hl : l.length ≤ maxLen) (a b : Int) : Ev (fun k => spec_ListRange.f k l a b) (rangeM l a b) := by
  unfold spec_ListRange.f rangeM
  refine Ev.bind (l2Texts_ev l hl) ?_
  cases hT : textsB l 16 with
  | false =>
    refine neg (by decide) ?_
    refine Ev.step (g := fun k => spec_ListRange.j0 k _ _ _ _) (fun k => by rw [spec_ListRange.j0]) ?_
    refine pos rfl (ret' rfl)
  | true =>
    have h16 := (textsB_le hT).1
    rw [if_pos rfl]
    refine pos rfl (Ev.bind (l2Place_ev a) ?_)
    cases hp : placeB a with
    | false =>
      refine neg (by decide) ?_
      refine Ev.step (g := fun k => spec_ListRange.j0 k _ _ _ _) (fun k => by rw [spec_ListRange.j0]) ?_
      refine pos rfl (ret' ?_)
      simp [spanM, hp]
    | true =>
      refine pos rfl (Ev.bind (l2Place_ev b) ?_)
      cases hq : placeB b with
      | false =>
        refine Ev.step (g := fun k => spec_ListRange.j0 k _ _ _ _) (fun k => by rw [spec_ListRange.j0]) ?_
        refine pos rfl (ret' ?_)
        simp [spanM, hq]
      | true =>
        have e : spanM l.length a b = endsM l.length a b := if_pos ⟨hp, hq⟩
        rw [e]
        refine Ev.step (g := fun k => spec_ListRange.j0 k _ _ _ _) (fun k => by rw [spec_ListRange.j0]) ?_
        refine neg (by decide) ?_
        refine Ev.bind (l2Ends_ev l.length (by omega) a b hp hq) ?_
        obtain ⟨b1, b2, b3⟩ := endsM_bd l.length a b
        exact pos b1 (pos b2 (pos b3 (Ev.bind (l2Copy_ev _ (by simp [List.length_take]; omega)) (ret _))))
end Go.Proofs.Ytaoeibfegfkdjaa.Q
