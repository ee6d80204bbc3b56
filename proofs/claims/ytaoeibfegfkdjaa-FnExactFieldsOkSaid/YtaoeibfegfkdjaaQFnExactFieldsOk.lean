import Derived.Test.YtaoeibfegfkdjaaPx1
import Derived.Test.YtaoeibfegfkdjaaQFieldsOk
/- Plain law: FieldsOk of the program and of the reference say the same of every list of pairs. -/
namespace Go.Proofs.Ytaoeibfegfkdjaa.Q
open Go.RowKit Go.Proofs.YtaoeibfegfkdjaaW.PrintWords Go.Proofs.YtaoeibfegfkdjaaW.PrintLast Go.Proofs.Ytaoeibfegfkdjaa.P

theorem FnExactFieldsOk_pure (l : List LPair) (hl : l.length ≤ maxLen) (hs : ∀ s ∈ l, s.f0.size ≤ maxLen ∧ s.f1.size ≤ maxLen) : ∃ k, laws_FnExactFieldsOk.f k l = some true := by
  refine exists_of (r := true) ?_
  unfold laws_FnExactFieldsOk.f
  obtain ⟨v, hv, h1, h2, h3⟩ := szPairS_ev l hl hs 1048576 (by omega) (by omega)
  refine Ev.bind hv (both (fun _ => ret _) (fun h => ?_))
  obtain ⟨h4, h5⟩ := h3 (by omega)
  have hT := toPairS_ev l h4
  have hlen : (l.map cvPair).length ≤ maxLen := by rw [List.length_map]; exact hl
  generalize l.map cvPair = m at hT hlen
  have hS := spec_FieldsOk_ev m hlen
  have hI := impl_FieldsOk_ev m hlen
  have hE := eqPairS_same m hlen
  repeat' first
    | exact ret _
    | exact ret' rfl
    | dsimp only
    | refine Ev.bind (hT) ?_
    | refine Ev.bind (hS) ?_
    | refine Ev.bind (hI) ?_
    | refine Ev.bind (hE) ?_
    | refine pos rfl ?_
    | refine neg (by decide) ?_
    | refine pos (by omega) ?_
    | refine neg (by omega) ?_
    | refine neg (by simp) ?_
end Go.Proofs.Ytaoeibfegfkdjaa.Q
