import Derived.Test.YtcdiokflmambiaaPx1
import Derived.Test.YtcdiokflmambiaaQMark
import Derived.Test.YtcdiokflmambiaaQPair
/- Plain lemmas: the law's marks on pairs: two numbers a pair. -/
namespace Go.Proofs.Ytcdiokflmambiaa.Q
open Go.RowKit Go.Proofs.YtcdiokflmambiaaW.PrintWords Go.Proofs.YtcdiokflmambiaaW.PrintLast Go.Proofs.Ytcdiokflmambiaa.P

noncomputable def marksP (n : Int) (m : Nat) : List Pair := (List.range m).map fun (j : Nat) => ⟨markT (n + 2 * (j : Int)), markT (n + 2 * (j : Int) + 1)⟩
theorem marksP_length (n : Int) (m : Nat) : (marksP n m).length = m := by simp [marksP]
theorem marksP_get (n : Int) (m j : Nat) (h : j < (marksP n m).length) : (marksP n m)[j] = ⟨markT (n + 2 * j), markT (n + 2 * j + 1)⟩ := by simp [marksP]
theorem marksP_succ (n : Int) (m : Nat) : marksP n (m + 1) = marksP n m ++ [⟨markT (n + 2 * m), markT (n + 2 * m + 1)⟩] := by simp [marksP, List.range_succ]
theorem markPairS_l0 (n : Int) (m : Nat) (h0 : 0 ≤ n) (h1 : n + 2 * m ≤ 9223372036854775806) (d : Nat) : ∀ (i : Nat) (x : List Pair), i + d = m → x.length = m → x.take i = marksP n i →
    Ev (fun k => laws_markPairS.l0 k x (n + 2 * i) (i : Int)) (n + 2 * m, marksP n m) := by
  induction d with
  | zero =>
    intro i x hi hx ht
    refine Ev.step (g := fun k => laws_markPairS.l0 k _ _ _) (fun k => by rw [laws_markPairS.l0]) (neg (by omega) (ret' ?_))
    obtain rfl : i = m := by omega
    rw [List.take_of_length_le (by omega)] at ht
    rw [ht]
  | succ d ih =>
    intro i x hi hx ht
    have hlt : i < x.length := by omega
    refine Ev.step (g := fun k => laws_markPairS.l0 k _ _ _) (fun k => by rw [laws_markPairS.l0]) (pos (by omega) (Ev.bind (markT_ev _ (by omega)) ?_))
    refine pos (by omega) (Ev.bind (ret _) ?_)
    rw [wrap_id (x := n + 2 * (i : Int) + 1) (by omega) (by omega), wrap_id (x := n + 2 * (i : Int) + 1 + 1) (by omega) (by omega), wrap_id (x := (i : Int) + 1) (by omega) (by omega)]
    refine Ev.bind (markT_ev _ (by omega)) ?_
    rw [Int.toNat_natCast, rdPair_lt _ _ hlt, rdPair_lt _ _ (by simp; omega)]
    have := ih (i + 1) (x.set i ⟨markT (n + 2 * i), markT (n + 2 * i + 1)⟩) (by omega) (by simp [hx]) (by
      rw [List.take_succ_eq_append_getElem (by simp; omega), marksP_succ, List.take_set_of_le (Nat.le_refl _), ht]
      simp)
    rw [show (n + 2 * (i : Int) + 1 + 1) = n + 2 * ((i + 1 : Nat) : Int) by omega, List.set_set, List.getElem_set_self]
    exact this
theorem markPairS_ev (l : List Pair) (n : Int) (h0 : 0 ≤ n) (h1 : n + 2 * l.length ≤ 9223372036854775806) : Ev (fun k => laws_markPairS.f k l n) (n + 2 * l.length, marksP n l.length) := by
  have := markPairS_l0 n l.length h0 h1 l.length 0 l (by omega) rfl (by simp [marksP])
  simpa [laws_markPairS.f] using this
theorem heldPairS_l0 (n : Int) (m : Nat) (h0 : 0 ≤ n) (h1 : n + 2 * m ≤ 9223372036854775806) (d : Nat) : ∀ (i : Nat), i + d = m →
    Ev (fun k => laws_heldPairS.l0 k (marksP n m) (n + 2 * i) (i : Int)) (n + 2 * m) := by
  have hm := marksP_length n m
  induction d with
  | zero =>
    intro i hi
    obtain rfl : i = m := by omega
    exact Ev.step (g := fun k => laws_heldPairS.l0 k _ _ _) (fun k => by rw [laws_heldPairS.l0]) (neg (by omega) (ret' rfl))
  | succ d ih =>
    intro i hi
    refine Ev.step (g := fun k => laws_heldPairS.l0 k _ _ _) (fun k => by rw [laws_heldPairS.l0]) (pos (by omega) (pos (by omega) ?_))
    rw [wrap_id (x := n + 2 * (i : Int) + 1) (by omega) (by omega), wrap_id (x := n + 2 * (i : Int) + 1 + 1) (by omega) (by omega), wrap_id (x := (i : Int) + 1) (by omega) (by omega), rdPair_lt _ _ (by omega), marksP_get]
    refine Ev.bind (markT_ev _ (by omega)) (pos rfl (Ev.bind (markT_ev _ (by omega)) (pos rfl ?_)))
    have := ih (i + 1) (by omega)
    rw [show (n + 2 * (i : Int) + 1 + 1) = n + 2 * ((i + 1 : Nat) : Int) by omega]
    exact this
theorem heldPairS_ev (n : Int) (m : Nat) (h0 : 0 ≤ n) (h1 : n + 2 * m ≤ 9223372036854775806) : Ev (fun k => laws_heldPairS.f k (marksP n m) n) (n + 2 * m) := by
  have := heldPairS_l0 n m h0 h1 m 0 (by omega)
  simpa [laws_heldPairS.f] using this
end Go.Proofs.Ytcdiokflmambiaa.Q
