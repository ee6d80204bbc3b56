import Derived.Test.YtaoeibfegfkdjaaPx1
import Derived.Test.YtaoeibfegfkdjaaQPop
import Derived.Test.YtaoeibfegfkdjaaQNum
/- Plain lemmas: ListSet on both sides. -/
namespace Go.Proofs.Ytaoeibfegfkdjaa.Q
open Go.RowKit Go.Proofs.YtaoeibfegfkdjaaW.PrintWords Go.Proofs.YtaoeibfegfkdjaaW.PrintLast Go.Proofs.Ytaoeibfegfkdjaa.P

def atM (n : Nat) (a : Int) : Int := if a < 0 then a + n else a
def listSetM (l : List ByteArray) (a : Int) (t : ByteArray) : List ByteArray × Bool :=
  if textsB l 16 = true then (if placeB a = true ∧ t.size ≤ 40 ∧ 0 ≤ atM l.length a ∧ atM l.length a < l.length then (l.set (atM l.length a).toNat t, true) else (l, false)) else ([], false)
theorem listSetM_len (l : List ByteArray) (a : Int) (t : ByteArray) : (listSetM l a t).1.length ≤ l.length := by
  unfold listSetM
  split
  · split <;> simp
  · simp
theorem listSetM_small (l : List ByteArray) (a : Int) (t : ByteArray) (hs : ∀ s ∈ l, s.size ≤ 1048576) : ∀ s ∈ (listSetM l a t).1, s.size ≤ 1048576 := by
  intro s h
  unfold listSetM at h
  split at h
  · split at h
    · rename_i h1
      rcases List.mem_or_eq_of_mem_set h with h | rfl
      · exact hs s h
      · have := h1.2.1; omega
    · exact hs s h
  · simp at h
theorem impl_ListSet_ev (l : List ByteArray) (hl : l.length ≤ maxLen) (a : Int) (t : ByteArray) (ha : (Lit.int .i64 a).wf = true) : Ev (fun k => impl_ListSet.f k l a t) (listSetM l a t) := by
  have hb : -9223372036854775808 ≤ a ∧ a ≤ 9223372036854775807 := wf64 ha
  unfold impl_ListSet.f listSetM
  refine Ev.bind (listOk_ev l hl) ?_
  cases hT : textsB l 16 with
  | false => exact neg (by decide) (ret' rfl)
  | true =>
    have h16 := (textsB_le hT).1
    refine pos rfl (Ev.bind (copied_ev l (by omega)) ?_)
    rw [if_pos rfl]
    have hn : wrap64 ((l.length : Int) - 1) = (l.length : Int) - 1 := wrap_id (by omega) (by omega)
    refine both (fun h => ?_) (fun h => ?_)
    · have hw : wrap64 (a + (l.length : Int)) = a + l.length := wrap_id (by omega) (by omega)
      have hat : atM l.length a = a + l.length := if_pos h
      refine Ev.bind (position_ev a) ?_
      cases hp : placeB a with
      | true =>
        refine Ev.step (g := fun k => impl_ListSet.j0 k _ _ _ _ _) (fun k => by rw [impl_ListSet.j0]) (pos rfl ?_)
        refine Ev.bind (within_ev _ _ _) ?_
        rw [hw, hn, hat]
        cases hin : inB (a + l.length) 0 ((l.length : Int) - 1) with
        | true =>
          have := inB_iff.1 hin
          refine pos rfl (both (fun h5 => ?_) (fun h5 => ?_))
          · exact ret' (if_neg (by omega)).symm
          · exact pos (by omega) (pos (by omega) (ret' (if_pos ⟨rfl, by omega, by omega, by omega⟩).symm))
        | false =>
          have := inB_false.1 hin
          exact neg (by decide) (ret' (if_neg (by omega)).symm)
      | false =>
        refine Ev.step (g := fun k => impl_ListSet.j0 k _ _ _ _ _) (fun k => by rw [impl_ListSet.j0]) (neg (by decide) ?_)
        refine Ev.bind (within_ev _ _ _) ?_
        rw [show inB a 0 (wrap64 ((l.length : Int) - 1)) = false from inB_false.2 (by omega)]
        exact neg (by decide) (ret' (if_neg (by simp)).symm)
    · have hat : atM l.length a = a := if_neg h
      refine Ev.step (g := fun k => impl_ListSet.j0 k _ _ _ _ _) (fun k => by rw [impl_ListSet.j0]) (neg (by decide) ?_)
      refine Ev.bind (within_ev _ _ _) ?_
      rw [hn, hat]
      cases hin : inB a 0 ((l.length : Int) - 1) with
      | true =>
        have := inB_iff.1 hin
        have hp : placeB a = true := inB_iff.2 (by omega)
        refine pos rfl (both (fun h5 => ?_) (fun h5 => ?_))
        · exact ret' (if_neg (by omega)).symm
        · exact pos (by omega) (pos (by omega) (ret' (if_pos ⟨hp, by omega, by omega, by omega⟩).symm))
      | false =>
        have := inB_false.1 hin
        exact neg (by decide) (ret' (if_neg (by omega)).symm)
theorem spec_ListSet_ev (l : List ByteArray) (hl : l.length ≤ maxLen) (a : Int) (t : ByteArray) : Ev (fun k => spec_ListSet.f k l a t) (listSetM l a t) := by
  unfold spec_ListSet.f listSetM
  refine Ev.bind (l2Texts_ev l hl) ?_
  cases hT : textsB l 16 with
  | false => exact neg (by decide) (ret' rfl)
  | true =>
    have h16 := (textsB_le hT).1
    refine pos rfl (Ev.bind (l2Copy_ev l (by omega)) (Ev.bind (l2Place_ev a) ?_))
    rw [if_pos rfl]
    have hn : wrap64 ((l.length : Int) - 1) = (l.length : Int) - 1 := wrap_id (by omega) (by omega)
    cases hp : placeB a with
    | false =>
      refine neg (by decide) (Ev.step (g := fun k => spec_ListSet.j0 k _ _ _ _ _) (fun k => by rw [spec_ListSet.j0]) (pos rfl ?_))
      exact ret' (if_neg (by simp)).symm
    | true =>
      have hb := place_bd hp
      refine pos rfl (Ev.step (g := fun k => spec_ListSet.j0 k _ _ _ _ _) (fun k => by rw [spec_ListSet.j0]) (both (fun h5 => ?_) (fun h5 => ?_)))
      · have : ¬ t.size ≤ 40 := by have := of_decide_eq_true h5; omega
        exact ret' (if_neg (fun h => this h.2.1)).symm
      · have h40 : t.size ≤ 40 := by have : ¬ ((t.size : Int) > 40) := fun h => h5 (decide_eq_true h); omega
        refine both (fun h => ?_) (fun h => ?_)
        · have hw : wrap64 (a + (l.length : Int)) = a + l.length := wrap_id (by omega) (by omega)
          have hat : atM l.length a = a + l.length := if_pos h
          refine Ev.bind (l1In_ev _ _ _) ?_
          rw [hw, hn, hat]
          cases hin : inB (a + l.length) 0 ((l.length : Int) - 1) with
          | true =>
            have := inB_iff.1 hin
            exact pos rfl (pos (by omega) (pos (by omega) (ret' (if_pos ⟨rfl, h40, by omega, by omega⟩).symm)))
          | false =>
            have := inB_false.1 hin
            exact neg (by decide) (ret' (if_neg (by omega)).symm)
        · have hat : atM l.length a = a := if_neg h
          refine Ev.bind (l1In_ev _ _ _) ?_
          rw [hn, hat]
          cases hin : inB a 0 ((l.length : Int) - 1) with
          | true =>
            have := inB_iff.1 hin
            exact pos rfl (pos (by omega) (pos (by omega) (ret' (if_pos ⟨rfl, h40, by omega, by omega⟩).symm)))
          | false =>
            have := inB_false.1 hin
            exact neg (by decide) (ret' (if_neg (by omega)).symm)
end Go.Proofs.Ytaoeibfegfkdjaa.Q
