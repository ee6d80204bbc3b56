import Derived.Test.YtcdiokflmambiaaPx1
import Derived.Test.YtcdiokflmambiaaQCopy
/- Plain lemmas: ListPush on both sides. -/
namespace Go.Proofs.Ytcdiokflmambiaa.Q
open Go.RowKit Go.Proofs.YtcdiokflmambiaaW.PrintWords Go.Proofs.YtcdiokflmambiaaW.PrintLast Go.Proofs.Ytcdiokflmambiaa.P

/-- Put at an end, one by one. -/
def pushM (front : Bool) (l t : List ByteArray) : List ByteArray := if front = true then t.reverse ++ l else l ++ t
theorem pushM_nil (front : Bool) (l : List ByteArray) : pushM front l [] = l := by cases front <;> simp [pushM]
theorem pushM_cons (front : Bool) (l : List ByteArray) (x : ByteArray) (t : List ByteArray) : pushM front (pushM front l [x]) t = pushM front l (x :: t) := by cases front <;> simp [pushM]
theorem pushM_len (front : Bool) (l t : List ByteArray) : (pushM front l t).length = l.length + t.length := by
  cases front <;> simp [pushM]
  omega
theorem pushM_mem (front : Bool) (l t : List ByteArray) (s : ByteArray) : s ∈ pushM front l t ↔ s ∈ l ∨ s ∈ t := by cases front <;> simp [pushM, or_comm]
def listPushM (l : List ByteArray) (front : Bool) (t : List ByteArray) : List ByteArray × Bool :=
  if textsB l 16 = true then (if textsB t 16 = true ∧ l.length + t.length ≤ 16 then (pushM front l t, true) else (l, false)) else ([], false)
theorem listPushM_len (l : List ByteArray) (front : Bool) (t : List ByteArray) : (listPushM l front t).1.length ≤ 16 := by
  unfold listPushM
  split
  · rename_i h1
    split
    · rename_i h; rw [pushM_len]; exact h.2
    · have := (textsB_le h1).1; dsimp only; omega
  · simp
theorem l2Push_l0 (front : Bool) (t : List ByteArray) (ht : t.length ≤ 16) (d : Nat) : ∀ (i : Nat) (x : List ByteArray), i + d = t.length → x.length ≤ 1000 + i → Ev (fun k => spec_l2Push.l0 k front t x (i : Int)) (pushM front x (t.drop i)) := by
  induction d with
  | zero =>
    intro i x hi hx
    refine Ev.step (g := fun k => spec_l2Push.l0 k _ _ _ _) (fun k => by rw [spec_l2Push.l0]) (neg (by omega) (ret' ?_))
    rw [List.drop_of_length_le (by omega), pushM_nil]
  | succ d ih =>
    intro i x hi hx
    have hlt : i < t.length := by omega
    refine Ev.step (g := fun k => spec_l2Push.l0 k _ _ _ _) (fun k => by rw [spec_l2Push.l0]) (pos (by omega) ?_)
    rw [rdOf_lt _ _ _ hlt, wrap_id (x := (i : Int) + 1) (by omega) (by omega), List.drop_eq_getElem_cons hlt, ← pushM_cons]
    have h := ih (i + 1) (pushM front x [t[i]]) (by omega) (by rw [pushM_len]; simp; omega)
    cases front with
    | true => exact pos rfl (pos (by omega) (Ev.bind (ret _) (pos (by simp; omega) h)))
    | false => exact neg (by decide) (pos (by omega) (pos (by omega) h))
theorem spec_ListPush_ev (l : List ByteArray) (hl : l.length ≤ maxLen) (front : Bool) (t : List ByteArray) (ht : t.length ≤ maxLen) : Ev (fun k => spec_ListPush.f k l front t) (listPushM l front t) := by
  unfold spec_ListPush.f listPushM
  refine Ev.bind (l2Texts_ev l hl) ?_
  cases hT : textsB l 16 with
  | false => exact neg (by decide) (ret' rfl)
  | true =>
    have h16 := (textsB_le hT).1
    have hC := l2Copy_ev l (by omega)
    refine pos rfl (Ev.bind (l2Texts_ev t ht) ?_)
    rw [if_pos rfl]
    have no : Ev (fun k => spec_ListPush.j0 k l front t true) (l, false) := by
      refine Ev.step (g := fun k => spec_ListPush.j0 k _ _ _ _) (fun k => by rw [spec_ListPush.j0]) (pos rfl ?_)
      exact Ev.bind hC (ret _)
    cases hU : textsB t 16 with
    | false => exact neg (by decide) (of_eq no (by rw [if_neg (by simp)]))
    | true =>
      have h16' := (textsB_le hU).1
      refine pos rfl ?_
      rw [wrap_id (by omega) (by omega)]
      by_cases h : l.length + t.length ≤ 16
      · rw [decide_eq_false (by omega), if_pos ⟨rfl, h⟩]
        refine Ev.step (g := fun k => spec_ListPush.j0 k _ _ _ _) (fun k => by rw [spec_ListPush.j0]) (neg (by decide) ?_)
        refine Ev.bind ?_ (ret _)
        unfold spec_l2Push.f
        exact Ev.bind hC (l2Push_l0 front t (by omega) t.length 0 l (by omega) (by omega))
      · rw [decide_eq_true (by omega), if_neg (fun q => h q.2)]
        exact no
theorem impl_ListPush_l0 (front : Bool) (t : List ByteArray) (ht : t.length ≤ 16) (d : Nat) : ∀ (i : Nat) (x : List ByteArray), i + d = t.length → x.length ≤ 1000 + i → Ev (fun k => impl_ListPush.l0 k front x t (t.length : Int) (i : Int)) (pushM front x (t.drop i), true) := by
  induction d with
  | zero =>
    intro i x hi hx
    refine Ev.step (g := fun k => impl_ListPush.l0 k _ _ _ _ _) (fun k => by rw [impl_ListPush.l0]) (neg (by omega) ?_)
    rw [List.drop_of_length_le (by omega), pushM_nil]
    exact Ev.bind (copied_ev x (by omega)) (ret _)
  | succ d ih =>
    intro i x hi hx
    have hlt : i < t.length := by omega
    refine Ev.step (g := fun k => impl_ListPush.l0 k _ _ _ _ _) (fun k => by rw [impl_ListPush.l0]) (pos (by omega) (pos (by omega) (pos (by omega) ?_)))
    rw [rdOf_lt _ _ _ hlt, wrap_id (x := (i : Int) + 1) (by omega) (by omega), List.drop_eq_getElem_cons hlt, ← pushM_cons]
    have h := ih (i + 1) (pushM front x [t[i]]) (by omega) (by rw [pushM_len]; simp; omega)
    cases front with
    | true => exact pos rfl (Ev.bind (val (if_pos ⟨rfl, rfl, by omega⟩)) h)
    | false => exact neg (by decide) (pos (by omega) h)
theorem impl_ListPush_ev (l : List ByteArray) (hl : l.length ≤ maxLen) (front : Bool) (t : List ByteArray) (ht : t.length ≤ maxLen) : Ev (fun k => impl_ListPush.f k l front t) (listPushM l front t) := by
  unfold impl_ListPush.f listPushM
  refine Ev.bind (listOk_ev l hl) ?_
  cases hT : textsB l 16 with
  | false => exact neg (by decide) (ret' rfl)
  | true =>
    have h16 := (textsB_le hT).1
    have hC := copied_ev l (by omega)
    refine pos rfl (Ev.bind (listOk_ev t ht) ?_)
    rw [if_pos rfl]
    have no : Ev (fun k => impl_ListPush.j0 k l front t true) (l, false) := by
      refine Ev.step (g := fun k => impl_ListPush.j0 k _ _ _ _) (fun k => by rw [impl_ListPush.j0]) (pos rfl ?_)
      exact Ev.bind hC (ret _)
    cases hU : textsB t 16 with
    | false => exact neg (by decide) (of_eq no (by rw [if_neg (by simp)]))
    | true =>
      have h16' := (textsB_le hU).1
      refine pos rfl ?_
      rw [wrap_id (by omega) (by omega)]
      by_cases h : l.length + t.length ≤ 16
      · rw [decide_eq_false (by omega), if_pos ⟨rfl, h⟩]
        refine Ev.step (g := fun k => impl_ListPush.j0 k _ _ _ _) (fun k => by rw [impl_ListPush.j0]) (neg (by decide) ?_)
        exact Ev.bind hC (impl_ListPush_l0 front t (by omega) t.length 0 l (by omega) (by omega))
      · rw [decide_eq_true (by omega), if_neg (fun q => h q.2)]
        exact no
end Go.Proofs.Ytcdiokflmambiaa.Q
