import Derived.Test.YtaoeibfegfkdjaaPx1
import Derived.Test.YtaoeibfegfkdjaaQSetOk
/- Plain law: SetOk of the program and of the reference say the same of every list of texts. -/
namespace Go.Proofs.Ytaoeibfegfkdjaa.Q
open Go.RowKit Go.Proofs.YtaoeibfegfkdjaaW.PrintWords Go.Proofs.YtaoeibfegfkdjaaW.PrintLast Go.Proofs.Ytaoeibfegfkdjaa.P

theorem FnExactSetOk_pure (l : List ByteArray) (hl : l.length ≤ maxLen) (hs : ∀ s ∈ l, s.size ≤ maxLen) : ∃ k, laws_FnExactSetOk.f k l = some true := by
  refine exists_of (r := true) ?_
  unfold laws_FnExactSetOk.f
  obtain ⟨v, hv, h1, h2, h3⟩ := szStringS_ev l hl hs 1048576 (by omega) (by omega)
  refine Ev.bind hv (both (fun _ => ret _) (fun h => ?_))
  obtain ⟨h4, h5⟩ := h3 (by omega)
  have hT := toStringS_ev l (by omega)
  have hS := spec_SetOk_ev l hl
  have hI := impl_SetOk_ev l hl
  have hE := eqStringS_same l hl
  repeat' first
    | exact ret _
    | refine Ev.bind hT ?_
    | refine Ev.bind hS ?_
    | refine Ev.bind hI ?_
    | refine Ev.bind hE ?_
    | refine neg (by simp) ?_
    | refine pos (by simp) ?_
end Go.Proofs.Ytaoeibfegfkdjaa.Q
