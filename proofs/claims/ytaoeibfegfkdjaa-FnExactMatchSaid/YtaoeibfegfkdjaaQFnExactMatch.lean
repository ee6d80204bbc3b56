import Derived.Test.YtaoeibfegfkdjaaPx1
import Derived.Test.YtaoeibfegfkdjaaQMatch
/- Plain law: Match of the program and of the reference say the same of every pattern and text. -/
namespace Go.Proofs.Ytaoeibfegfkdjaa.Q
open Go.RowKit Go.Proofs.YtaoeibfegfkdjaaW.PrintWords Go.Proofs.YtaoeibfegfkdjaaW.PrintLast Go.Proofs.Ytaoeibfegfkdjaa.P

theorem FnExactMatch_pure (a b : ByteArray) (_ha : a.size ≤ 140737488351232) (_hb : b.size ≤ 140737488351232) : ∃ k, laws_FnExactMatch.f k a b = some true := by
  refine exists_of (r := true) ?_
  unfold laws_FnExactMatch.f
  refine both (fun _ => ret _) (fun h1 => both (fun _ => ret _) (fun h2 => ?_))
  refine Ev.bind (spec_Match_ev _ a b (Nat.le_refl _) (by unfold maxLen; omega)) (Ev.bind (impl_Match_ev a b (by omega) (by omega)) ?_)
  exact neg (by simp) (ret _)
end Go.Proofs.Ytaoeibfegfkdjaa.Q
