import Derived.Test.YtcdiokflmambiaaPx1
import Derived.Test.YtcdiokflmambiaaQList
/- Plain lemmas: ListPop on both sides. -/
namespace Go.Proofs.Ytcdiokflmambiaa.Q
open Go.RowKit Go.Proofs.YtcdiokflmambiaaW.PrintWords Go.Proofs.YtcdiokflmambiaaW.PrintLast Go.Proofs.Ytcdiokflmambiaa.P

theorem textsB_le {l : List ByteArray} {m : Int} (h : textsB l m = true) : (l.length : Int) ≤ m ∧ ∀ s ∈ l, s.size ≤ 40 := by
  simp only [textsB, Bool.and_eq_true, decide_eq_true_eq, List.all_eq_true] at h
  exact ⟨h.2, h.1⟩
theorem l2Copy_ev (l : List ByteArray) (h : l.length < 8796093022208) : Ev (fun _ => spec_l2Copy.f l) l := by
  unfold spec_l2Copy.f
  refine Ev.bind (ret _) (pos ?_ (ret' rfl))
  simpa using h
theorem copied_ev (l : List ByteArray) (h : l.length < 8796093022208) : Ev (fun _ => impl_copied.f l) l := by
  unfold impl_copied.f
  refine Ev.bind (ret _) (pos ?_ (ret' rfl))
  simpa using h
def listPopM (l : List ByteArray) (front : Bool) : List ByteArray × ByteArray × Bool :=
  if textsB l 16 = true ∧ l.length ≠ 0 then (if front = true then (l.drop 1, l.getD 0 ByteArray.empty, true) else (l.take (l.length - 1), l.getD (l.length - 1) ByteArray.empty, true)) else ([], ⟨#[]⟩, false)
theorem impl_ListPop_ev (l : List ByteArray) (hl : l.length ≤ maxLen) (front : Bool) : Ev (fun k => impl_ListPop.f k l front) (listPopM l front) := by
  unfold impl_ListPop.f listPopM
  refine Ev.bind (listOk_ev l hl) ?_
  cases hT : textsB l 16 with
  | false =>
    refine neg (by decide) ?_
    repeat' first
      | exact ret _
      | exact ret' rfl
      | dsimp only
      | refine Ev.step (g := fun k => impl_ListPop.j0 k _ _ _) (fun k => by rw [impl_ListPop.j0]) ?_
      | refine pos rfl ?_
      | refine neg (by decide) ?_
      | refine pos (by omega) ?_
      | refine neg (by omega) ?_
      | refine neg (by simp) ?_
  | true =>
    have h16 := (textsB_le hT).1
    refine pos rfl ?_
    by_cases h0 : l.length = 0
    · have e : ((l.length : Int) == 0) = true := by simp [h0]
      rw [e, if_neg (by simp [h0])]
      repeat' first
        | exact ret _
        | exact ret' rfl
        | dsimp only
        | refine Ev.step (g := fun k => impl_ListPop.j0 k _ _ _) (fun k => by rw [impl_ListPop.j0]) ?_
        | refine pos rfl ?_
        | refine neg (by decide) ?_
        | refine pos (by omega) ?_
        | refine neg (by omega) ?_
        | refine neg (by simp) ?_
    · have e : ((l.length : Int) == 0) = false := by simp; exact fun h => h0 (by simp [h])
      rw [e, if_pos ⟨rfl, h0⟩]
      have hw : wrap64 ((l.length : Int) - 1) = ((l.length - 1 : Nat) : Int) := by rw [wrap_id (by omega) (by omega)]; omega
      have hd := copied_ev (l.drop 1) (by rw [List.length_drop]; omega)
      have ht := copied_ev (l.take (l.length - 1)) (by rw [List.length_take]; omega)
      cases front
      all_goals
        repeat' first
          | exact ret _
          | exact ret' rfl
          | dsimp only
          | refine Ev.step (g := fun k => impl_ListPop.j0 k _ _ _) (fun k => by rw [impl_ListPop.j0]) ?_
          | refine Ev.bind (hd) ?_
          | refine Ev.bind (ht) ?_
          | rw [hw]
          | refine pos rfl ?_
          | refine neg (by decide) ?_
          | refine pos (by omega) ?_
          | refine neg (by omega) ?_
          | refine neg (by simp) ?_
theorem spec_ListPop_ev (l : List ByteArray) (hl : l.length ≤ maxLen) (front : Bool) : Ev (fun k => spec_ListPop.f k l front) (listPopM l front) := by
  unfold spec_ListPop.f listPopM
  refine Ev.bind (l2Texts_ev l hl) ?_
  cases hT : textsB l 16 with
  | false =>
    refine neg (by decide) ?_
    repeat' first
      | exact ret _
      | exact ret' rfl
      | dsimp only
      | refine Ev.step (g := fun k => spec_ListPop.j0 k _ _ _ _) (fun k => by rw [spec_ListPop.j0]) ?_
      | refine pos rfl ?_
      | refine neg (by decide) ?_
      | refine pos (by omega) ?_
      | refine neg (by omega) ?_
      | refine neg (by simp) ?_
  | true =>
    have h16 := (textsB_le hT).1
    refine pos rfl ?_
    by_cases h0 : l.length = 0
    · have e : ((l.length : Int) == 0) = true := by simp [h0]
      rw [e, if_neg (by simp [h0])]
      repeat' first
        | exact ret _
        | exact ret' rfl
        | dsimp only
        | refine Ev.step (g := fun k => spec_ListPop.j0 k _ _ _ _) (fun k => by rw [spec_ListPop.j0]) ?_
        | refine pos rfl ?_
        | refine neg (by decide) ?_
        | refine pos (by omega) ?_
        | refine neg (by omega) ?_
        | refine neg (by simp) ?_
    · have e : ((l.length : Int) == 0) = false := by simp; exact fun h => h0 (by simp [h])
      rw [e, if_pos ⟨rfl, h0⟩]
      have hw : wrap64 ((l.length : Int) - 1) = ((l.length - 1 : Nat) : Int) := by rw [wrap_id (by omega) (by omega)]; omega
      have hd := l2Copy_ev (l.drop 1) (by rw [List.length_drop]; omega)
      have ht := l2Copy_ev (l.take (l.length - 1)) (by rw [List.length_take]; omega)
      cases front
      all_goals
        repeat' first
          | exact ret _
          | exact ret' rfl
          | dsimp only
          | refine Ev.step (g := fun k => spec_ListPop.j0 k _ _ _ _) (fun k => by rw [spec_ListPop.j0]) ?_
          | refine Ev.bind (hd) ?_
          | refine Ev.bind (ht) ?_
          | rw [hw]
          | refine pos rfl ?_
          | refine neg (by decide) ?_
          | refine pos (by omega) ?_
          | refine neg (by omega) ?_
          | refine neg (by simp) ?_
theorem listPopM_len (l : List ByteArray) (front : Bool) : (listPopM l front).1.length ≤ l.length := by
  unfold listPopM
  split
  · split
    · simp
    · simp [List.length_take]
  · simp
end Go.Proofs.Ytcdiokflmambiaa.Q
