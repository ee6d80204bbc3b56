import Derived.Test.YtaoeibfegfkdjaaPx1
import Derived.Test.YtaoeibfegfkdjaaQList
/- Plain lemmas on sets: both sides say 'ascending, and texts are ok'. -/
namespace Go.Proofs.Ytaoeibfegfkdjaa.Q
open Go.RowKit Go.Proofs.YtaoeibfegfkdjaaW.PrintWords Go.Proofs.YtaoeibfegfkdjaaW.PrintLast Go.Proofs.Ytaoeibfegfkdjaa.P

/-- Bytewise less. -/
def lt (a b : ByteArray) : Bool := Op.bytesLess a.toList b.toList
/-- Strictly ascending. -/
def ascB : List ByteArray → Bool
  | a :: b :: r => lt a b && ascB (b :: r)
  | _ => true
/-- A set. -/
def setB (l : List ByteArray) : Bool := ascB l && textsB l 16
theorem spec_SetOk_l0 (l : List ByteArray) (hl : l.length ≤ maxLen) (d : Nat) : ∀ (j : Nat), j + 1 + d = l.length → Ev (fun k => spec_SetOk.l0 k l ((j : Int) + 1)) (ascB (l.drop j) && textsB l 16) := by
  have hl' := hl
  unfold maxLen at hl'
  induction d with
  | zero =>
    intro j hj
    refine Ev.step (fun k => by rw [spec_SetOk.l0]) (neg (by omega) ?_)
    rw [List.drop_eq_getElem_cons (by omega : j < l.length), List.drop_of_length_le (by omega)]
    exact Ev.bind (l2Texts_ev l hl) (ret' (by simp [ascB]))
  | succ d ih =>
    intro j hj
    have h1 : j < l.length := by omega
    have h2 : j + 1 < l.length := by omega
    have e : (j : Int) + 1 = ((j + 1 : Nat) : Int) := by omega
    refine Ev.step (fun k => by rw [spec_SetOk.l0]) (pos (by omega) ?_)
    rw [wrap_id (x := (j : Int) + 1 - 1) (by omega) (by omega), show (j : Int) + 1 - 1 = (j : Int) by omega]
    refine pos (by omega) (pos (by omega) (pos (by omega) ?_))
    rw [rdOf_lt _ _ _ h1, e, rdOf_lt _ _ _ h2, wrap_id (by omega) (by omega)]
    have hd : l.drop j = l[j] :: l[j + 1] :: l.drop (j + 2) := by rw [List.drop_eq_getElem_cons h1, List.drop_eq_getElem_cons h2]
    have hd1 : l.drop (j + 1) = l[j + 1] :: l.drop (j + 2) := List.drop_eq_getElem_cons h2
    rw [hd]
    refine both (fun h => ?_) (fun h => ret' ?_)
    · have := ih (j + 1) (by omega)
      rw [hd1] at this
      refine of_eq this ?_
      show _ = (lt l[j] l[j + 1] && ascB (l[j + 1] :: l.drop (j + 2)) && textsB l 16)
      rw [show lt l[j] l[j + 1] = true from h, Bool.true_and]
    · show false = (lt l[j] l[j + 1] && ascB (l[j + 1] :: l.drop (j + 2)) && textsB l 16)
      rw [show lt l[j] l[j + 1] = false from Bool.eq_false_iff.2 h, Bool.false_and, Bool.false_and]
theorem spec_SetOk_ev (l : List ByteArray) (hl : l.length ≤ maxLen) : Ev (fun k => spec_SetOk.f k l) (setB l) := by
  unfold spec_SetOk.f setB
  by_cases h : l.length = 0
  · obtain rfl : l = [] := List.length_eq_zero_iff.1 h
    refine Ev.step (fun k => by rw [spec_SetOk.l0]) (neg (by simp) ?_)
    exact Ev.bind (l2Texts_ev [] (by simp)) (ret' (by simp [ascB]))
  · exact spec_SetOk_l0 l hl (l.length - 1) 0 (by omega)
theorem impl_SetOk_l0 (l : List ByteArray) (hl : l.length ≤ maxLen) (d : Nat) : ∀ (j : Nat), j + 1 + d = l.length → Ev (fun k => impl_SetOk.l0 k l ((j : Int) + 1)) (ascB (l.drop j) && textsB l 16) := by
  have hl' := hl
  unfold maxLen at hl'
  induction d with
  | zero =>
    intro j hj
    refine Ev.step (fun k => by rw [impl_SetOk.l0]) (neg (by omega) ?_)
    rw [List.drop_eq_getElem_cons (by omega : j < l.length), List.drop_of_length_le (by omega)]
    exact Ev.bind (listOk_ev l hl) (ret' (by simp [ascB]))
  | succ d ih =>
    intro j hj
    have h1 : j < l.length := by omega
    have h2 : j + 1 < l.length := by omega
    have e : (j : Int) + 1 = ((j + 1 : Nat) : Int) := by omega
    refine Ev.step (fun k => by rw [impl_SetOk.l0]) (pos (by omega) ?_)
    rw [wrap_id (x := (j : Int) + 1 - 1) (by omega) (by omega), show (j : Int) + 1 - 1 = (j : Int) by omega]
    refine pos (by omega) (pos (by omega) (pos (by omega) ?_))
    rw [rdOf_lt _ _ _ h1, e, rdOf_lt _ _ _ h2, wrap_id (by omega) (by omega)]
    have hd : l.drop j = l[j] :: l[j + 1] :: l.drop (j + 2) := by rw [List.drop_eq_getElem_cons h1, List.drop_eq_getElem_cons h2]
    have hd1 : l.drop (j + 1) = l[j + 1] :: l.drop (j + 2) := List.drop_eq_getElem_cons h2
    rw [hd]
    refine both (fun h => ?_) (fun h => ret' ?_)
    · have := ih (j + 1) (by omega)
      rw [hd1] at this
      refine of_eq this ?_
      show _ = (lt l[j] l[j + 1] && ascB (l[j + 1] :: l.drop (j + 2)) && textsB l 16)
      rw [show lt l[j] l[j + 1] = true from h, Bool.true_and]
    · show false = (lt l[j] l[j + 1] && ascB (l[j + 1] :: l.drop (j + 2)) && textsB l 16)
      rw [show lt l[j] l[j + 1] = false from Bool.eq_false_iff.2 h, Bool.false_and, Bool.false_and]
theorem impl_SetOk_ev (l : List ByteArray) (hl : l.length ≤ maxLen) : Ev (fun k => impl_SetOk.f k l) (setB l) := by
  unfold impl_SetOk.f setB
  by_cases h : l.length = 0
  · obtain rfl : l = [] := List.length_eq_zero_iff.1 h
    refine Ev.step (fun k => by rw [impl_SetOk.l0]) (neg (by simp) ?_)
    exact Ev.bind (listOk_ev [] (by simp)) (ret' (by simp [ascB]))
  · exact impl_SetOk_l0 l hl (l.length - 1) 0 (by omega)
end Go.Proofs.Ytaoeibfegfkdjaa.Q
