import Derived.Test.YtcdiokflmambiaaPx1
import Derived.Test.YtcdiokflmambiaaQFieldsGet
/- Plain law: FieldsGet of the program and of the reference give the same. -/
namespace Go.Proofs.Ytcdiokflmambiaa.Q
open Go.RowKit Go.Proofs.YtcdiokflmambiaaW.PrintWords Go.Proofs.YtcdiokflmambiaaW.PrintLast Go.Proofs.Ytcdiokflmambiaa.P

theorem FnExactFieldsGet_pure (l : List LPair) (t : ByteArray) (hl : l.length ≤ maxLen) (hs : ∀ s ∈ l, s.f0.size ≤ maxLen ∧ s.f1.size ≤ maxLen) (_ht : t.size ≤ 140737488351232) : ∃ k, laws_FnExactFieldsGet.f k l t = some true := by
  refine exists_of (r := true) ?_
  unfold laws_FnExactFieldsGet.f
  refine both (fun _ => ret _) (fun _ => ?_)
  obtain ⟨v, hv, h1, h2, h3⟩ := szPairS_ev l hl hs 1048576 (by omega) (by omega)
  refine Ev.bind hv (both (fun _ => ret _) (fun h => ?_))
  obtain ⟨h4, h5⟩ := h3 (by omega)
  have hT := toPairS_ev l h4
  have hlen : (l.map cvPair).length ≤ maxLen := by rw [List.length_map]; exact hl
  generalize l.map cvPair = m at hT hlen
  have hS := spec_FieldsGet_ev m hlen t
  have hI := impl_FieldsGet_ev m hlen t
  generalize fieldsGetM m t = q at hS hI
  obtain ⟨r, r2⟩ := q
  have hE := eqPairS_same m hlen
  repeat' first
    | exact ret _
    | exact ret' rfl
    | dsimp only
    | refine Ev.bind (hT) ?_
    | refine Ev.bind (hS) ?_
    | refine Ev.bind (hI) ?_
    | refine Ev.bind (hE) ?_
    | refine Ev.step (g := fun k => laws_FnExactFieldsGet.j0 k _ _ _) (fun k => by rw [laws_FnExactFieldsGet.j0]) ?_
    | refine pos rfl ?_
    | refine neg (by decide) ?_
    | refine pos (by omega) ?_
    | refine neg (by omega) ?_
    | refine neg (by simp) ?_
end Go.Proofs.Ytcdiokflmambiaa.Q
