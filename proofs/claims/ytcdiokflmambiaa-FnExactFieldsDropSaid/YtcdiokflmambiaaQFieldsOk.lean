import Derived.Test.YtcdiokflmambiaaPx1
import Derived.Test.YtcdiokflmambiaaQPair
import Derived.Test.YtcdiokflmambiaaQOrd
/- Plain lemmas: both sides say the same of 'fields are ok'. -/
namespace Go.Proofs.Ytcdiokflmambiaa.Q
open Go.RowKit Go.Proofs.YtcdiokflmambiaaW.PrintWords Go.Proofs.YtcdiokflmambiaaW.PrintLast Go.Proofs.Ytcdiokflmambiaa.P

def ahead : Option ByteArray → ByteArray → Bool
  | none, _ => true
  | some y, x => lt y x
/-- Ascending by field behind what came before, each not too long. -/
def fieldsUp : Option ByteArray → List Pair → Bool
  | _, [] => true
  | p, x :: r => decide (x.f0.size ≤ 40) && (decide (x.f1.size ≤ 40) && (ahead p x.f0 && fieldsUp (some x.f0) r))
def fieldsB (l : List Pair) : Bool := fieldsUp none l && decide ((l.length : Int) ≤ 16)
def before (l : List Pair) (i : Nat) : Option ByteArray := if h : 0 < i ∧ i - 1 < l.length then some (l[i - 1]'h.2).f0 else none
theorem spec_FieldsOk_l0 (l : List Pair) (hl : l.length ≤ maxLen) (d : Nat) : ∀ (i : Nat), i + d = l.length → Ev (fun k => spec_FieldsOk.l0 k l (i : Int)) (fieldsUp (before l i) (l.drop i) && decide ((l.length : Int) ≤ 16)) := by
  unfold maxLen at hl
  induction d with
  | zero =>
    intro i hi
    refine Ev.step (g := fun k => spec_FieldsOk.l0 k _ _) (fun k => by rw [spec_FieldsOk.l0]) (neg (by omega) (ret' ?_))
    rw [List.drop_of_length_le (by omega), fieldsUp, Bool.true_and]
  | succ d ih =>
    intro i hi
    have hlt : i < l.length := by omega
    refine Ev.step (g := fun k => spec_FieldsOk.l0 k _ _) (fun k => by rw [spec_FieldsOk.l0]) (pos (by omega) (pos (by omega) ?_))
    try refine pos (by omega) ?_
    rw [rdPair_lt _ _ hlt, List.drop_eq_getElem_cons hlt, fieldsUp, wrap_id (x := (i : Int) + 1) (by omega) (by omega)]
    have hb : before l (i + 1) = some l[i].f0 := by unfold before; rw [dif_pos ⟨by omega, by omega⟩]; rfl
    have ih := ih (i + 1) (by omega)
    rw [hb] at ih
    refine both (fun h => ret' ?_) (fun h => both (fun h' => ret' ?_) (fun h' => ?_))
    · rw [decide_eq_false (by omega), Bool.false_and, Bool.false_and]
    · rw [decide_eq_false (p := l[i].f1.size ≤ 40) (by omega)]; simp
    · rw [decide_eq_true (by omega), decide_eq_true (p := l[i].f1.size ≤ 40) (by omega), Bool.true_and, Bool.true_and]
      by_cases h0 : i = 0
      · subst h0
        refine neg (by omega) (of_eq ih ?_)
        simp [before, ahead]
      · have hlt1 : i - 1 < l.length := by omega
        have hp : before l i = some l[i - 1].f0 := by unfold before; rw [dif_pos ⟨by omega, hlt1⟩]
        have e : wrap64 ((i : Int) - 1) = ((i - 1 : Nat) : Int) := by rw [wrap_id (by omega) (by omega)]; omega
        rw [hp, e, rdPair_lt _ _ hlt1]
        refine pos (by omega) (pos (by omega) (pos (by omega) (both (fun h => ?_) (fun h => ret' ?_))))
        · refine of_eq ih ?_
          show _ = (lt l[i - 1].f0 l[i].f0 && fieldsUp (some l[i].f0) (l.drop (i + 1)) && _)
          rw [show lt l[i - 1].f0 l[i].f0 = true from h, Bool.true_and]
        · show false = (lt l[i - 1].f0 l[i].f0 && fieldsUp (some l[i].f0) (l.drop (i + 1)) && _)
          rw [show lt l[i - 1].f0 l[i].f0 = false from Bool.eq_false_iff.2 h, Bool.false_and, Bool.false_and]
theorem spec_FieldsOk_ev (l : List Pair) (hl : l.length ≤ maxLen) : Ev (fun k => spec_FieldsOk.f k l) (fieldsB l) := by
  have := spec_FieldsOk_l0 l hl l.length 0 (by omega)
  simpa [before, spec_FieldsOk.f, fieldsB] using this
theorem impl_FieldsOk_l0 (l : List Pair) (hl : l.length ≤ maxLen) (d : Nat) : ∀ (i : Nat), i + d = l.length → Ev (fun k => impl_FieldsOk.l0 k l l (l.length : Int) (i : Int)) (fieldsUp (before l i) (l.drop i) && decide ((l.length : Int) ≤ 16)) := by
  unfold maxLen at hl
  induction d with
  | zero =>
    intro i hi
    refine Ev.step (g := fun k => impl_FieldsOk.l0 k _ _ _ _) (fun k => by rw [impl_FieldsOk.l0]) (neg (by omega) (ret' ?_))
    rw [List.drop_of_length_le (by omega), fieldsUp, Bool.true_and]
  | succ d ih =>
    intro i hi
    have hlt : i < l.length := by omega
    refine Ev.step (g := fun k => impl_FieldsOk.l0 k _ _ _ _) (fun k => by rw [impl_FieldsOk.l0]) (pos (by omega) (pos (by omega) ?_))
    try refine pos (by omega) ?_
    rw [rdPair_lt _ _ hlt, List.drop_eq_getElem_cons hlt, fieldsUp, wrap_id (x := (i : Int) + 1) (by omega) (by omega)]
    have hb : before l (i + 1) = some l[i].f0 := by unfold before; rw [dif_pos ⟨by omega, by omega⟩]; rfl
    have ih := ih (i + 1) (by omega)
    rw [hb] at ih
    refine both (fun h => ret' ?_) (fun h => both (fun h' => ret' ?_) (fun h' => ?_))
    · rw [decide_eq_false (by omega), Bool.false_and, Bool.false_and]
    · rw [decide_eq_false (p := l[i].f1.size ≤ 40) (by omega)]; simp
    · rw [decide_eq_true (by omega), decide_eq_true (p := l[i].f1.size ≤ 40) (by omega), Bool.true_and, Bool.true_and]
      by_cases h0 : i = 0
      · subst h0
        refine neg (by omega) (of_eq ih ?_)
        simp [before, ahead]
      · have hlt1 : i - 1 < l.length := by omega
        have hp : before l i = some l[i - 1].f0 := by unfold before; rw [dif_pos ⟨by omega, hlt1⟩]
        have e : wrap64 ((i : Int) - 1) = ((i - 1 : Nat) : Int) := by rw [wrap_id (by omega) (by omega)]; omega
        rw [hp, e, rdPair_lt _ _ hlt1]
        refine pos (by omega) (pos (by omega) (pos (by omega) (both (fun h => ?_) (fun h => ret' ?_))))
        · refine of_eq ih ?_
          show _ = (lt l[i - 1].f0 l[i].f0 && fieldsUp (some l[i].f0) (l.drop (i + 1)) && _)
          rw [show lt l[i - 1].f0 l[i].f0 = true from h, Bool.true_and]
        · show false = (lt l[i - 1].f0 l[i].f0 && fieldsUp (some l[i].f0) (l.drop (i + 1)) && _)
          rw [show lt l[i - 1].f0 l[i].f0 = false from Bool.eq_false_iff.2 h, Bool.false_and, Bool.false_and]
theorem impl_FieldsOk_ev (l : List Pair) (hl : l.length ≤ maxLen) : Ev (fun k => impl_FieldsOk.f k l) (fieldsB l) := by
  have := impl_FieldsOk_l0 l hl l.length 0 (by omega)
  simpa [before, impl_FieldsOk.f, fieldsB] using this
end Go.Proofs.Ytcdiokflmambiaa.Q
