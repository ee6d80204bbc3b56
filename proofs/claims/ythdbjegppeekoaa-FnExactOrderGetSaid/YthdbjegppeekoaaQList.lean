import Derived.Test.YthdbjegppeekoaaPx1
import Derived.Test.YthdbjegppeekoaaQEv
/- Plain lemmas on lists of texts: the law's own helpers (size, copy, equal), 'texts are ok' on both sides. -/
namespace Go.Proofs.Ythdbjegppeekoaa.Q
open Go.RowKit Go.Proofs.YthdbjegppeekoaaW.PrintWords Go.Proofs.YthdbjegppeekoaaW.PrintLast Go.Proofs.Ythdbjegppeekoaa.P

/-- The texts of a list are at most forty bytes long, and at most m. -/
def textsB (l : List ByteArray) (m : Int) : Bool := l.all (fun s => decide (s.size ≤ 40)) && decide ((l.length : Int) ≤ m)
theorem eqStringS_l0 (l l' : List ByteArray) (hl : l.length ≤ maxLen) (he : l.length = l'.length) (d : Nat) : ∀ (i : Nat), i + d = l.length → Ev (fun k => laws_eqStringS.l0 k l l' (i : Int)) (decide (l.drop i = l'.drop i)) := by
  unfold maxLen at hl
  induction d with
  | zero =>
    intro i hi
    refine Ev.step (fun k => by rw [laws_eqStringS.l0]) (neg (by omega) (ret' ?_))
    rw [List.drop_of_length_le (by omega), List.drop_of_length_le (by omega)]
    simp
  | succ d ih =>
    intro i hi
    have hlt : i < l.length := by omega
    have hlt' : i < l'.length := by omega
    refine Ev.step (fun k => by rw [laws_eqStringS.l0]) (pos (by omega) (pos (by omega) (pos (by omega) ?_)))
    rw [rdOf_lt _ _ _ hlt, rdOf_lt _ _ _ hlt', wrap_id (by omega) (by omega), List.drop_eq_getElem_cons hlt, List.drop_eq_getElem_cons hlt']
    refine both (fun h => ?_) (fun h => ret' ?_)
    · refine of_eq (ih (i + 1) (by omega)) ?_
      rw [toList_inj h]
      exact decide_eq_decide.2 (by simp only [List.cons.injEq, true_and])
    · exact (decide_eq_false (fun e => h (by rw [(List.cons.inj e).1]))).symm
theorem eqStringS_ev (l l' : List ByteArray) (hl : l.length ≤ maxLen) : Ev (fun k => laws_eqStringS.f k l l') (decide (l = l')) := by
  unfold laws_eqStringS.f
  refine both (fun h => ?_) (fun h => ret' ?_)
  · exact eqStringS_l0 l l' hl (by omega) l.length 0 (by omega)
  · have : l ≠ l' := fun e => h (by rw [e])
    simp [this]
theorem eqStringS_same (l : List ByteArray) (hl : l.length ≤ maxLen) : Ev (fun k => laws_eqStringS.f k l l) true := of_eq (eqStringS_ev l l hl) (by simp)

end Go.Proofs.Ythdbjegppeekoaa.Q
