import Derived.Test.YtcdiokflmambiaaPx1
import Derived.Test.YtcdiokflmambiaaQFieldsGet
import Derived.Test.YtcdiokflmambiaaQMarkPair
/- Plain law: FieldsDrop of the program and of the reference give the same, and share nothing. -/
namespace Go.Proofs.Ytcdiokflmambiaa.Q
open Go.RowKit Go.Proofs.YtcdiokflmambiaaW.PrintWords Go.Proofs.YtcdiokflmambiaaW.PrintLast Go.Proofs.Ytcdiokflmambiaa.P

theorem FnExactFieldsDrop_pure (l : List LPair) (t : ByteArray) (hl : l.length ≤ maxLen) (hs : ∀ s ∈ l, s.f0.size ≤ maxLen ∧ s.f1.size ≤ maxLen) (_ht : t.size ≤ 140737488351232) : ∃ k, laws_FnExactFieldsDrop.f k l t = some true := by
  refine exists_of (r := true) ?_
  unfold laws_FnExactFieldsDrop.f
  refine both (fun _ => ret _) (fun _ => ?_)
  obtain ⟨v, hv, h1, h2, h3⟩ := szPairS_ev l hl hs 1048576 (by omega) (by omega)
  refine Ev.bind hv (both (fun _ => ret _) (fun h => ?_))
  obtain ⟨h4, h5⟩ := h3 (by omega)
  have hT := toPairS_ev l h4
  have hlen : (l.map cvPair).length ≤ 1048576 := by rw [List.length_map]; exact h4
  generalize l.map cvPair = m at hT hlen
  have hlen' : m.length ≤ maxLen := by unfold maxLen; omega
  have hS := spec_FieldsDrop_ev m hlen' t
  have hI := impl_FieldsDrop_ev m hlen' t
  have hr := fieldsDropM_len m t
  generalize fieldsDropM m t = q at hS hI hr
  obtain ⟨r, r2⟩ := q
  replace hr : r.length ≤ m.length := hr
  have hE := eqPairS_same m hlen'
  have hE1 := eqPairS_same r (by omega)
  have hm := markPairS_ev m 1 (by omega) (by omega)
  have hm1 := markPairS_ev r 1 (by omega) (by omega)
  have hh1 := heldPairS_ev 1 r.length (by omega) (by omega)
  repeat' first
    | exact ret _
    | exact ret' rfl
    | dsimp only
    | refine Ev.bind (hT) ?_
    | refine Ev.bind (hS) ?_
    | refine Ev.bind (hI) ?_
    | refine Ev.bind (hE) ?_
    | refine Ev.bind (hE1) ?_
    | refine Ev.bind (hm) ?_
    | refine Ev.bind (hm1) ?_
    | refine Ev.bind (hh1) ?_
    | refine Ev.step (g := fun k => laws_FnExactFieldsDrop.j0 k _ _ _ _ _ _ _ _) (fun k => by rw [laws_FnExactFieldsDrop.j0]) ?_
    | refine Ev.step (g := fun k => laws_FnExactFieldsDrop.j1 k _ _ _ _ _ _) (fun k => by rw [laws_FnExactFieldsDrop.j1]) ?_
    | refine Ev.step (g := fun k => laws_FnExactFieldsDrop.j2 k _ _ _) (fun k => by rw [laws_FnExactFieldsDrop.j2]) ?_
    | refine pos rfl ?_
    | refine neg (by decide) ?_
    | refine pos (by omega) ?_
    | refine neg (by omega) ?_
    | refine neg (by simp) ?_
end Go.Proofs.Ytcdiokflmambiaa.Q
