import Derived.Test.YthdbjegppeekoaaPx1
import Derived.Test.YthdbjegppeekoaaQMarkT
/- Plain lemmas: the law's marks. Marking a list, then holding it against the marks, counts its cells. -/
namespace Go.Proofs.Ythdbjegppeekoaa.Q
open Go.RowKit Go.Proofs.YthdbjegppeekoaaW.PrintWords Go.Proofs.YthdbjegppeekoaaW.PrintLast Go.Proofs.Ythdbjegppeekoaa.P

noncomputable def marks (n : Int) (m : Nat) : List ByteArray := (List.range m).map fun (j : Nat) => markT (n + (j : Int))
theorem marks_length (n : Int) (m : Nat) : (marks n m).length = m := by simp [marks]
theorem marks_get (n : Int) (m j : Nat) (h : j < (marks n m).length) : (marks n m)[j] = markT (n + j) := by simp [marks]
theorem marks_succ (n : Int) (m : Nat) : marks n (m + 1) = marks n m ++ [markT (n + m)] := by simp [marks, List.range_succ]
theorem markStringS_l0 (n : Int) (m : Nat) (h0 : 0 ≤ n) (h1 : n + m ≤ 9223372036854775806) (d : Nat) : ∀ (i : Nat) (x : List ByteArray), i + d = m → x.length = m → x.take i = marks n i →
    Ev (fun k => laws_markStringS.l0 k x (n + i) (i : Int)) (n + m, marks n m) := by
  induction d with
  | zero =>
    intro i x hi hx ht
    refine Ev.step (fun k => by rw [laws_markStringS.l0]) (neg (by omega) (ret' ?_))
    obtain rfl : i = m := by omega
    rw [List.take_of_length_le (by omega)] at ht
    rw [ht]
  | succ d ih =>
    intro i x hi hx ht
    refine Ev.step (fun k => by rw [laws_markStringS.l0]) (pos (by omega) (Ev.bind (markT_ev _ (by omega)) ?_))
    refine pos (by omega) ?_
    rw [wrap_id (by omega) (by omega), wrap_id (by omega) (by omega)]
    have := ih (i + 1) (x.set i (markT (n + i))) (by omega) (by simp [hx]) (by
      rw [List.take_succ_eq_append_getElem (by simp; omega), marks_succ, List.take_set_of_le (Nat.le_refl _), ht]
      simp)
    rw [show (n + (i : Int) + 1) = n + ((i + 1 : Nat) : Int) by omega, Int.toNat_natCast]
    exact this
theorem markStringS_ev (l : List ByteArray) (n : Int) (h0 : 0 ≤ n) (h1 : n + l.length ≤ 9223372036854775806) : Ev (fun k => laws_markStringS.f k l n) (n + l.length, marks n l.length) := by
  have := markStringS_l0 n l.length h0 h1 l.length 0 l (by omega) rfl (by simp [marks])
  simpa [laws_markStringS.f] using this
theorem heldStringS_l0 (n : Int) (m : Nat) (h0 : 0 ≤ n) (h1 : n + m ≤ 9223372036854775806) (d : Nat) : ∀ (i : Nat), i + d = m →
    Ev (fun k => laws_heldStringS.l0 k (marks n m) (n + i) (i : Int)) (n + m) := by
  have hm := marks_length n m
  induction d with
  | zero =>
    intro i hi
    obtain rfl : i = m := by omega
    exact Ev.step (fun k => by rw [laws_heldStringS.l0]) (neg (by omega) (ret' rfl))
  | succ d ih =>
    intro i hi
    refine Ev.step (fun k => by rw [laws_heldStringS.l0]) (pos (by omega) (pos (by omega) (Ev.bind (markT_ev _ (by omega)) ?_)))
    refine pos ?_ ?_
    · rw [rdOf_lt _ _ _ (by omega), marks_get]
    · rw [wrap_id (by omega) (by omega), wrap_id (by omega) (by omega)]
      exact ih (i + 1) (by omega) |> fun h => by rw [show (n + (i : Int) + 1) = n + ((i + 1 : Nat) : Int) by omega]; exact h
theorem heldStringS_ev (n : Int) (m : Nat) (h0 : 0 ≤ n) (h1 : n + m ≤ 9223372036854775806) : Ev (fun k => laws_heldStringS.f k (marks n m) n) (n + m) := by
  have := heldStringS_l0 n m h0 h1 m 0 (by omega)
  simpa [laws_heldStringS.f] using this

end Go.Proofs.Ythdbjegppeekoaa.Q
